/- Expressions as they are handed on, boxed, laid into slices. The refere -/
import Derived.Test.YtdmacgoeikjdbaaGreatDoorK07
import Derived.Great.BuildSlice
import Derived.Outline
import Derived.Deep.CutBlock
import Derived.Deep.DeepCutAuto
set_option maxHeartbeats 8000000
namespace Go.Proofs.YtdmacgoeikjdbaaGreatDoor
open Go.RowKit
theorem ex_info:(Tryz.prog.info? 100).map (fun i=>(i.zero,i.size,i.bytes))=some (some (.agg #[.int .i64 0,.int .i64 0,.int .i64 0,.int .i64 0,.string ⟨#[]⟩,.int .i64 0,.slice none 0 0,.int .i64 0]),8,88):=by kernel_rfl
theorem ex_size:(Tryz.prog.info? 100).map (·.size)=some 8:=by kernel_rfl
def ExQ (x:Ex) (g:Nat) (gv fv:Value) (s':RS) (w:World) (e:Ending) (w':World):Prop:=
 ∃ (V:Value) (X:Array Value),Hid (V=.agg X)∧X.size=8∧e=.returned V∧Rep w' (fun k=>w.heap.size≤k) (encEx x) X.toList∧KeepM g w w'∧RdQ w' g gv fv s'
def ExsQ (x:List Ex) (g:Nat) (gv fv:Value) (s':RS) (w:World) (e:Ending) (w':World):Prop:=
 ∃ (A:Option Addr) (c:Nat),e=.returned (.slice A x.length c)∧Rep w' (fun k=>w.heap.size≤k) (.lst 8 (x.map encEx)) [.slice A x.length c]∧KeepM g w w'∧RdQ w' g gv fv s'
theorem one_all {X:Array Value} (h:∀ u ∈ X.toList,u.oneCell'=true):X.all (·.oneCell')=true:=
 Array.all_eq_true_iff_forall_mem.2 fun v hv=>h v (by simpa using hv)
def AllEx (w:World) (ok:Nat→Prop):List Ex→List (Array Value)→Prop
 | [],[]=>True
 | x :: l,X :: m=>X.size=8∧Rep w ok (encEx x) X.toList∧AllEx w ok l m
 | _,_=>False
theorem AllEx.cells {w:World} {ok:Nat→Prop}:∀ {l:List Ex} {m:List (Array Value)},AllEx w ok l m→Cells w ok 8 (l.map encEx) (m.flatMap (·.toList))
 | [],[],_=>rfl
 | [],_ :: _,h=>h.elim
 | _ :: _,[],h=>h.elim
 | x :: l,X :: m,h=>by
  obtain ⟨h1,h2,h3⟩:=h
  exact ⟨X.toList,_,by simp,by simpa using h1,h2,AllEx.cells h3⟩
theorem AllEx.length {w:World} {ok:Nat→Prop}:∀ {l:List Ex} {m:List (Array Value)},AllEx w ok l m→l.length=m.length
 | [],[],_=>rfl
 | [],_ :: _,h=>h.elim
 | _ :: _,[],h=>h.elim
 | x :: l,X :: m,h=>by simp [AllEx.length h.2.2]
theorem AllEx.sizes {w:World} {ok:Nat→Prop}:∀ {l:List Ex} {m:List (Array Value)},AllEx w ok l m→∀ r ∈ m,r.size=8
 | [],[],_,r,hr=>by cases hr
 | [],_ :: _,h,_,_=>h.elim
 | _ :: _,[],h,_,_=>h.elim
 | x :: l,X :: m,h,r,hr=>by
  rcases List.mem_cons.1 hr with rfl | hr
  ·exact h.1
  ·exact AllEx.sizes h.2.2 r hr
theorem AllEx.slice {w:World} {ok:Nat→Prop} {l:List Ex} {m:List (Array Value)} (h:AllEx w ok l m) (hn:l.length≤1000):Rep (w.alloc (.cells (m.flatMap (·.toList)).toArray 100)) (fun k=>ok k ∨ w.heap.size≤k) (.lst 8 (l.map encEx)) [.slice (some ⟨w.heap.size,0,none⟩) l.length l.length]:=by
 have ho:=Own.fresh (e:=100) (B:=w.heap.size) h.cells (Nat.le_refl _) (by rw [List.length_map];unfold maxLen;omega) (g:=w.heap.size) (n:=l.length) rfl (by rw [List.length_map])
 exact ho.rep
theorem parts_row (a:Act) (parts:Array (Nat × Operand)) (Vs:List Value) (h1:parts.toList.map (·.1)=List.range' 0 parts.toList.length) (h2:parts.toList.map (fun p=>a.eval p.2)=Vs):(parts.map fun (i,x)=>(i,a.eval x)).toList=(Vs.zipIdx 0).map fun x=>(x.2,x.1):=by
 subst h2
 rw [Array.toList_map]
 apply List.ext_getElem
 ·simp
 ·intro k h3 h4
  have h5:k<parts.toList.length:=by simpa using h3
  have e:(parts.toList.map (·.1))[k]'(by simpa using h5)=k:=by
   have:(parts.toList.map (·.1))[k]?=(List.range' 0 parts.toList.length)[k]?:=by rw [h1]
   rw [List.getElem?_eq_getElem (by simpa using h5),List.getElem?_range' h5] at this
   simpa using this
  simp at e ⊢
  exact e
set_option maxRecDepth 100000 in
theorem wpList_exs {ops:Array Oper} {rest:List Oper} {o:Oper} {a:Act} {Q:Exit→Act→World→Prop} {w:World} (hg:o.guard=none) (n:Nat) (parts:Array (Nat × Operand)) (ho:o.op=.buildSlice 87 n parts) (Vs:List Value) (rows:List (Array Value)) (hV:Vs=rows.map Value.agg)
  (hpi:parts.toList.map (·.1)=List.range' 0 parts.toList.length) (hpv:parts.toList.map (fun p=>a.eval p.2)=Vs) (hs:∀ r ∈ rows,r.size=8) (hn:rows.length=n) (h0:0<n) (h1:n≤100)
  (h:∀ w':World,Below w.heap.size w w'→(∀ (l:List Ex) (ok:Nat→Prop),AllEx w ok l rows→Rep w' (fun k=>ok k ∨ w.heap.size≤k) (.lst 8 (l.map encEx)) [.slice (some ⟨w.heap.size,0,none⟩) n n])→wpList Tryz.prog ops Q rest (a.put o.dst (.slice (some ⟨w.heap.size,0,none⟩) n n)) w'):wpList Tryz.prog ops Q (o :: rest) a w:=by
 subst hV
 have h:=h _ (below_alloc w (.cells (rows.flatMap (·.toList)).toArray 100)) (fun l ok hA=>by
  have hl:=hA.length
  have:=hA.slice (by omega)
  rw [show l.length=n by omega] at this
  exact this)
 obtain ⟨i0,hi0,hz0,hz1,hz2⟩:=info_parts ex_info
 refine wpList_buildSlice hg 87 100 n parts ho _ i0 _ Tryz.underlying87 hi0 hz0 (by rw [hz1];omega) (by rw [hz1];omega) ?_ h
 rw [parts_row a parts _ hpi hpv,hz1]
 have h2:∀ v ∈ rows.map Value.agg,v.cells.size=8:=fun v hv=>by
  obtain ⟨r,hr,rfl⟩:=List.mem_map.1 hv
  exact hs r hr
 rw [Great.fill_whole (by decide) _ _ h2 (by simp [hn])]
 congr 2
 rw [List.flatMap_map]
 rfl
theorem wpList_storeV {P:Program} {ops:Array Oper} {rest:List Oper} {o:Oper} {a:Act} {w:World} {Q:Exit→Act→World→Prop} (hgd:o.guard=none) (ty:TypeId) (x y:Operand) (ho:o.op=.store ty x y)
  (g:Nat) (V:Value) (X:Array Value) (hV:V=.agg X) (hx:a.eval x=.pointer (some ⟨g,0,none⟩)) (hy:a.eval y=V)
  (t:TypeId) (old:Array Value) (hg:BlkIs w g t old) (hi:(P.info? ty).map (·.size)=some X.size)
  (hold:old.size=X.size) (h1:∀ u ∈ X.toList,u.oneCell'=true)
  (h:∀ w':World,KeepM g w w'→BlkIs w' g t X→wpList P ops Q rest (a.put o.dst undef) w'):wpList P ops Q (o :: rest) a w:=by
 subst hV
 exact wpList_store_row hgd ty x y ho g X hx hy t old hg hi hold (one_all h1) (h _ ((KeepM.refl g w).ownRow X) (setRow_heap _ _ _ _ _ _ hg))
theorem wpList_loadV {P:Program} {ops:Array Oper} {rest:List Oper} {o:Oper} {a:Act} {w:World} {Q:Exit→Act→World→Prop} (hgd:o.guard=none) (ty:TypeId) (x:Operand) (ho:o.op=.load ty x)
  (g:Nat) (V:Value) (X:Array Value) (hV:V=.agg X) (hx:a.eval x=.pointer (some ⟨g,0,none⟩)) (t:TypeId) (d:TypeDesc) (hg:BlkIs w g t X)
  (hu:P.underlying ty=some d) (hd:(match d with | .struct _ | .array _ _=>true | _=>false)=true) (hi:(P.info? ty).map (·.size)=some X.size)
  (h:wpList P ops Q rest (a.put o.dst V) w):wpList P ops Q (o :: rest) a w:=by
 subst hV
 exact wpList_load_row hgd ty x ho g hx t X (0,0) d hg hu hd hi h
end Go.Proofs.YtdmacgoeikjdbaaGreatDoor
namespace Go.Proofs.YtdmacgoeikjdbaaGreatDoor
open Go.RowKit
def strsOf (l:List (List UInt8 × Int)):Array Value:=(l.map fun x=>Value.string ⟨x.1.toArray⟩).toArray
def intsOf (l:List (List UInt8 × Int)):Array Value:=(l.map fun x=>Value.int .i64 x.2).toArray
theorem strsOf_at (l:List (List UInt8 × Int)) (k:Nat) (h:k<l.length):(strsOf l)[k]?=some (.string ⟨(l[k]).1.toArray⟩):=by simp [strsOf,h]
theorem intsOf_at (l:List (List UInt8 × Int)) (k:Nat) (h:k<l.length):(intsOf l)[k]?=some (.int .i64 (l[k]).2):=by simp [intsOf,h]
theorem rassigns_any (x:List UInt8) (w:World):Calls Tryz.prog 105 #[.string ⟨x.toArray⟩] w (TellQ (.int .i64 (rassigns x)) w):=by
 unfold rassigns
 obtain ⟨R,hR⟩:∃ R,Hid (lookS x assignL=R):=⟨_,Lib.hid rfl⟩
 rw [hR.out]
 have hb1:=below_alloc w (.cells (strsOf assignL) 9)
 have hb2:=hb1.trans (below_alloc (w.alloc (.cells (strsOf assignL) 9)) (.cells (intsOf assignL) 3) |>.mono (by simp))
 have h1:BlkIs ((w.alloc (.cells (strsOf assignL) 9)).alloc (.cells (intsOf assignL) 3)) w.heap.size 9 (strsOf assignL):=(BlkIs.fresh _ _ _).alloc _
 have h2:BlkIs ((w.alloc (.cells (strsOf assignL) 9)).alloc (.cells (intsOf assignL) 3)) (w.heap.size + 1) 3 (intsOf assignL):=BlkIs.fresh1 _ _ _ _
 go_enter Tryz.func105,Tryz.ntmps105
 go_wp2_with fail
 obtain ⟨ga,hga⟩:∃ x,Hid (w.heap.size=x):=⟨_,Lib.hid rfl⟩
 rw [hga.out] at h1 h2 ⊢
 go_loopw [5] (fun i wr=>∃ k:Nat,k≤10∧i=.int .i64 k∧BlkIs wr ga 9 (strsOf assignL)∧BlkIs wr (ga + 1) 3 (intsOf assignL)∧Below w.heap.size w wr∧Hid (lookS x (assignL.drop k)=R)) (fun i _=>10 - (intOf i).toNat)
 case atStart=>exact ⟨0,by omega,rfl,h1,h2,hb2,hR⟩
 case round=>
  obtain ⟨k,hk,rfl,hZ1,hZ2,hB,hL⟩:=hrel
  clear h1 h2 hb1 hb2 hR
  have l1:=hZ1.lt
  have l2:=hZ2.lt
  by_cases hlt:k<10
  ·have hkl:k<assignL.length:=hlt
   have c1:wr.cell? ⟨ga,k,none⟩=some (.string ⟨(assignL[k]).1.toArray⟩):=by rw [hZ1.cell,strsOf_at _ _ hkl]
   have c2:wr.cell? ⟨ga + 1,k,none⟩=some (.int .i64 (assignL[k]).2):=by rw [hZ2.cell,intsOf_at _ _ hkl]
   have hL1:=hL.out
   rw [List.drop_eq_getElem_cons hkl] at hL1
   obtain ⟨⟨y,n⟩,hx⟩:∃ x,assignL[k]=x:=⟨_,rfl⟩
   rw [hx] at c1 c2 hL1
   rw [lookS] at hL1
   simp only at c1 c2
   clear hx
   by_cases he:y=x
   ·rw [if_pos he] at hL1
    have hyx:(y == x)=true:=by simpa using he
    have HL:=Lib.hid hL1
    clear he hL1 hL
    go_wp2_with fail
    go_ret
    exact ⟨by rw [HL.out];rfl,hB⟩
   ·rw [if_neg he] at hL1
    have hyx:(y == x)=false:=by simpa using he
    have HL:=Lib.hid hL1
    clear he hL1 hL
    go_wp2_with fail
    go_roundw
    case rel=>exact ⟨k + 1,by omega,by go_num,hZ1,hZ2,hB,HL⟩
    case measure=>simp [intOf];omega
  ·obtain rfl:k=10:=by omega
   have HL:=hL.out
   rw [show assignL.drop 10=[] from rfl,lookS] at HL
   have HL:=Lib.hid HL
   go_wp2_with fail
   go_ret
   exact ⟨by rw [HL.out];rfl,hB⟩
end Go.Proofs.YtdmacgoeikjdbaaGreatDoor
namespace Go.Proofs.YtdmacgoeikjdbaaGreatDoor
open Go.RowKit
def DepthOk (d:Int) (f:Nat):Prop:=0≤d∧d + f≤1000000
def RExprOk (f:Nat):Prop:=∀ (d:Int) (s s':RS) (x:Ex) (g:Nat) (gv fv:Value) (w:World),rexpr f d s=some (x,s')→DepthOk d f→RdQ w g gv fv s →
 Calls Tryz.prog 90 #[.pointer (some ⟨g,0,none⟩),.int .i64 d] w (ExQ x g gv fv s' w)
def RCondOk (f:Nat):Prop:=∀ (d:Int) (s s':RS) (x:Ex) (g:Nat) (gv fv:Value) (w:World),rcond f d s=some (x,s')→DepthOk d f→RdQ w g gv fv s →
 Calls Tryz.prog 104 #[.pointer (some ⟨g,0,none⟩),.int .i64 d] w (ExQ x g gv fv s' w)
def RBinOk (f:Nat):Prop:=∀ (d:Int) (n:Nat) (s s':RS) (x:Ex) (g:Nat) (gv fv:Value) (w:World),n≤10→rbinary f d n s=some (x,s')→DepthOk d f→RdQ w g gv fv s →
 Calls Tryz.prog 115 #[.pointer (some ⟨g,0,none⟩),.int .i64 d,.int .i64 n] w (ExQ x g gv fv s' w)
def RUnaryOk (f:Nat):Prop:=∀ (d:Int) (s s':RS) (x:Ex) (g:Nat) (gv fv:Value) (w:World),runary f d s=some (x,s')→DepthOk d f→RdQ w g gv fv s →
 Calls Tryz.prog 125 #[.pointer (some ⟨g,0,none⟩),.int .i64 d] w (ExQ x g gv fv s' w)
def ROperandOk (f:Nat):Prop:=∀ (d:Int) (s s':RS) (x:List Ex) (g:Nat) (gv fv:Value) (w:World),roperand f d s=some (x,s')→DepthOk d f→RdQ w g gv fv s →
 Calls Tryz.prog 138 #[.pointer (some ⟨g,0,none⟩),.int .i64 d] w (ExsQ x g gv fv s' w)
def RPostOk (f:Nat):Prop:=∀ (d:Int) (s s':RS) (x:Ex) (g:Nat) (gv fv:Value) (w:World),rpostfix f d s=some (x,s')→DepthOk d f→RdQ w g gv fv s →
 Calls Tryz.prog 139 #[.pointer (some ⟨g,0,none⟩),.int .i64 d] w (ExQ x g gv fv s' w)
def RPrimOk (f:Nat):Prop:=∀ (d:Int) (s s':RS) (x:Ex) (g:Nat) (gv fv:Value) (w:World),rprimary f d s=some (x,s')→DepthOk d f→RdQ w g gv fv s →
 Calls Tryz.prog 142 #[.pointer (some ⟨g,0,none⟩),.int .i64 d] w (ExQ x g gv fv s' w)
theorem rdeep_cases (d:Int) (s:RS):(rok s=false∧rdeep d s=s) ∨ (rok s=true∧¬ 20<d∧rdeep d s=s) ∨ (rok s=true∧20<d∧rdeep d s=rfail 2 s):=by
 unfold rdeep
 cases h:rok s
 ·exact .inl ⟨rfl,by simp⟩
 ·by_cases hd:20<d
  ·exact .inr (.inr ⟨rfl,hd,by simp [hd]⟩)
  ·exact .inr (.inl ⟨rfl,hd,by simp [hd]⟩)
theorem KeepM.box {g q:Nat} {w w1 w2:World} (h:KeepM g w w1) (k:KeepM q w1 w2) (hq:w.heap.size≤q):KeepM g w w2:=
 ⟨k.os.trans h.os,k.tape.trans h.tape,k.output.trans h.output,Nat.le_trans h.size k.size,fun x hx hl=>(k.block x (by omega) (Nat.lt_of_lt_of_le hl h.size)).trans (h.block x hx hl)⟩
theorem RdQ.box {w1 w2:World} {g q:Nat} {gv fv:Value} {s:RS} (h:RdQ w1 g gv fv s) (k:KeepM q w1 w2) (hq:g<q):RdQ w2 g gv fv s:=by
 obtain ⟨h1,h2,A,c,h3,h4⟩:=h
 exact ⟨h1,h2,A,c,h3.keepM k (by omega),h4.keepM k (fun x hx=>by omega)⟩
theorem below_box {w1 w2:World} {o:Obj} (k:KeepM w1.heap.size (w1.alloc o) w2):Below w1.heap.size w1 w2:=by
 have h1:=below_alloc w1 o
 exact h1.trans (k.below h1.size)
abbrev exZ:Array Value:=#[.int .i64 0,.int .i64 0,.int .i64 0,.int .i64 0,.string ⟨#[]⟩,.int .i64 0,.slice none 0 0,.int .i64 0]
set_option maxRecDepth 100000 in
theorem roperand_step (f:Nat) (ih:RUnaryOk f):ROperandOk (f + 1):=by
 intro d s s' x g gv fv w hx hd hr
 rw [roperand] at hx
 obtain ⟨⟨y,s2⟩,h1,h2⟩:=Option.bind_eq_some_iff.1 hx
 injection h2 with h2
 injection h2 with e1 e2
 subst e1 e2
 have hcall:=fun W hq=>ih (d + 1) (rdeep (d + 1) s) s2 y g gv fv W h1 ⟨by have:=hd.1;omega,by have:=hd.2;omega⟩ hq
 have hd1:=hd.1
 have hd2:=hd.2
 have HR:=Lib.hid hr
 have ho:=rok_any g gv fv s w hr
 clear hx h1 hd hr
 rcases rdeep_cases (d + 1) s with ⟨a,b⟩ | ⟨a,b,c⟩ | ⟨a,b,c⟩
 ·rw [a] at ho
  rw [b] at hcall
  go_enter Tryz.func138,Tryz.ntmps138
  go_wp2_with fail
  refine ho.mono ?_
  rintro e w1 ⟨rfl,rfl⟩
  go_wp2_with fail
  refine (hcall _ HR.out).mono ?_
  rintro e w2 ⟨V,X,hV,hXs,rfl,hXr,k2,r2⟩
  go_wp2_with (refine wpList_exs rfl 1 _ rfl [V] [X] (congrArg (fun v=>[v]) hV.out) rfl rfl (by simpa using hXs) rfl (by decide) (by decide) (fun w3 hb3 hs3=>?_))
  go_ret
  have hA:AllEx w2 (fun k=>w.heap.size≤k) [y] [X]:=⟨hXs,hXr,trivial⟩
  have hsz:=k2.size
  exact ⟨_,_,rfl,(hs3 _ _ hA).imp (fun k hk _=>by rcases hk with h | h <;> omega),k2.trans (KeepM.of hb3),r2.below hb3⟩
 ·rw [a] at ho
  rw [c] at hcall
  have b1:decide ((20:Int)<d + 1)=false:=by simpa using b
  clear b
  go_enter Tryz.func138,Tryz.ntmps138
  go_wp2_with fail
  refine ho.mono ?_
  rintro e w1 ⟨rfl,rfl⟩
  go_wp2_with fail
  refine (hcall _ HR.out).mono ?_
  rintro e w2 ⟨V,X,hV,hXs,rfl,hXr,k2,r2⟩
  go_wp2_with (refine wpList_exs rfl 1 _ rfl [V] [X] (congrArg (fun v=>[v]) hV.out) rfl rfl (by simpa using hXs) rfl (by decide) (by decide) (fun w3 hb3 hs3=>?_))
  go_ret
  have hA:AllEx w2 (fun k=>w.heap.size≤k) [y] [X]:=⟨hXs,hXr,trivial⟩
  have hsz:=k2.size
  exact ⟨_,_,rfl,(hs3 _ _ hA).imp (fun k hk _=>by rcases hk with h | h <;> omega),k2.trans (KeepM.of hb3),r2.below hb3⟩
 ·rw [a] at ho
  rw [c] at hcall
  have b1:decide ((20:Int)<d + 1)=true:=by simpa using b
  clear b
  go_enter Tryz.func138,Tryz.ntmps138
  go_wp2_with fail
  refine ho.mono ?_
  rintro e w1 ⟨rfl,rfl⟩
  go_wp2_with fail
  refine (rfail_any g gv fv s 2 _ HR.out).mono ?_
  rintro e w1 ⟨rfl,k1,r1⟩
  go_wp2_with fail
  refine (hcall _ r1).mono ?_
  rintro e w2 ⟨V,X,hV,hXs,rfl,hXr,k2',r2⟩
  have hXr:=hXr.imp (ok':=fun k=>w.heap.size≤k) (fun k hk _=>Nat.le_trans k1.size hk)
  have k2:=k1.trans k2'
  go_wp2_with (refine wpList_exs rfl 1 _ rfl [V] [X] (congrArg (fun v=>[v]) hV.out) rfl rfl (by simpa using hXs) rfl (by decide) (by decide) (fun w3 hb3 hs3=>?_))
  go_ret
  have hA:AllEx w2 (fun k=>w.heap.size≤k) [y] [X]:=⟨hXs,hXr,trivial⟩
  have hsz:=k2.size
  exact ⟨_,_,rfl,(hs3 _ _ hA).imp (fun k hk _=>by rcases hk with h | h <;> omega),k2.trans (KeepM.of hb3),r2.below hb3⟩
end Go.Proofs.YtdmacgoeikjdbaaGreatDoor
namespace Go.Proofs.YtdmacgoeikjdbaaGreatDoor
open Go.RowKit
set_option maxRecDepth 100000 in
theorem rcond_step (f:Nat) (ihb:RBinOk f) (ihe:RExprOk f) (ihc:RCondOk f):RCondOk (f + 1):=by
 intro d s s' x g gv fv w hx hd hr
 rw [rcond] at hx
 obtain ⟨⟨a,s1⟩,h1,h2⟩:=Option.bind_eq_some_iff.1 hx
 simp only at h2
 have hd1:=hd.1
 have hd2:=hd.2
 have hba:=fun W hq=>ihb d 0 s s1 a g gv fv W (by omega) h1 ⟨hd1,by omega⟩ hq
 have H2:=Lib.hid h2
 clear hx h1 h2 hd
 have hl:=hr.lt
 have hb0:=below_alloc w (.cells exZ 100)
 have y0:BlkIs (w.alloc (.cells exZ 100)) w.heap.size 100 exZ:=BlkIs.fresh _ _ _
 have r0:=hr.below hb0
 have k0:=KeepM.of (gm:=g) hb0
 obtain ⟨gy,hgy⟩:∃ x,Hid (w.heap.size=x):=⟨_,Lib.hid rfl⟩
 have hgyw:w.heap.size≤gy:=Nat.le_of_eq hgy.out
 have hgy2:g<gy:=by omega
 have hgs:gy<(w.alloc (.cells exZ 100)).heap.size:=by rw [← hgy.out];exact y0.lt
 rw [hgy.out] at y0
 clear hr hb0
 go_enter Tryz.func104,Tryz.ntmps104
 go_wp2_with fail
 refine (hba _ r0).mono ?_
 rintro e w1 ⟨V1,X1,hV1,hS1,rfl,hR1,k1,r1⟩
 have y1:=y0.keepM k1 (by omega)
 have k01:=k0.trans k1
 have hR1:=hR1.imp (ok':=fun k=>gy<k) (fun k hk _=>by omega)
 clear hba r0 k0 y0 k1 hgs
 rw [hgy.out]
 go_upto_region 2 with (refine wpList_storeV rfl 100 (.tmp 5) (.tmp 11) rfl _ V1 X1 hV1.out rfl rfl 100 _ (BlkIs.fresh _ _ _) (by rw [hS1];exact ex_size) (by rw [hS1];rfl) (Rep.one _ _ hR1) (fun w2 kz2 z2=>?_))
 have b2:=below_box kz2
 have r2:=r1.below b2
 have y2:=y1.below b2 y1.lt
 have k02:=k01.trans (KeepM.of b2)
 have hR2:=hR1.below b2
 obtain ⟨g5,hg5⟩:∃ x,Hid (w1.heap.size=x):=⟨_,Lib.hid rfl⟩
 have hg5y:gy<g5:=by rw [← hg5.out];exact y1.lt
 rw [hg5.out] at z2 ⊢
 clear kz2 b2 r1 y1 k01 hR1
 obtain ⟨c,q,off,n,c0,hn,hn2,hc,hq,hl2,t0,t1,t2,t3⟩:=r2.first
 obtain ⟨t,ht⟩:∃ t,Hid (hdT s1.ts=t):=⟨_,Lib.hid rfl⟩
 rw [ht.out] at t0 t1 t2 t3
 obtain ⟨k,tx,m,p⟩:=t
 simp only at t0 t1 t2 t3
 have hb3:=below_alloc w2 (.cells #[.int .i64 k,.string ⟨tx.toArray⟩,.int .i64 m,.int .i64 p] 43)
 have q3:=BlkIs.fresh w2 43 #[.int .i64 k,.string ⟨tx.toArray⟩,.int .i64 m,.int .i64 p]
 have r3:=r2.below hb3
 have y3:=y2.below hb3 y2.lt
 have z3:=z2.below hb3 z2.lt
 have k03:=k02.trans (KeepM.of hb3)
 have hR3:=hR2.below hb3
 obtain ⟨g6,hg6⟩:∃ x,Hid (w2.heap.size=x):=⟨_,Lib.hid rfl⟩
 have hg65:g5<g6:=by rw [← hg6.out];exact z2.lt
 rw [hg6.out] at q3
 clear r2 y2 z2 k02 hR2
 have H3:=H2.out
 rw [ht.out] at H3
 go_wp2_with fail
 rw [hg6.out]
 refine (rtake_any g gv fv s1 [63] _ r3).mono ?_
 rintro e w4 ⟨rfl,k4,r4⟩
 have y4:=y3.keepM k4 (by omega)
 have z4:=z3.keepM k4 (by omega)
 have q4:=q3.keepM k4 (by omega)
 have k04:=k03.trans k4
 have hR4:=hR3.keepM k4 (fun j hj=>by omega)
 clear r3 y3 z3 q3 k03 k4 hR3 c0 hq hl2 t0 t1 t2 t3 hb3
 have lz:=z4.lt
 have ly:=y4.lt
 have lq:=q4.lt
 have fy0:=y4.frozen 0
 cases htk:(rtake [63] s1).1
 ·rw [htk] at H3
  rw [if_neg (by decide)] at H3
  injection H3 with H3
  injection H3 with e1 e2
  subst e1 e2
  go_wp2_with (first | (refine wpList_loadV rfl 100 (.tmp 5) rfl g5 V1 X1 hV1.out rfl 100 _ z4 Tryz.underlying100 rfl (by rw [hS1];exact ex_size) ?_) | (refine wpList_storeV rfl 100 (.tmp 4) (.tmp 21) rfl gy V1 X1 hV1.out rfl rfl 100 _ y4 (by rw [hS1];exact ex_size) (by rw [hS1];rfl) (Rep.one _ _ hR4) (fun w5 k5 y5=>?_)))
  refine bodyPost_ret (results_cell_row rfl _ _ gy 100 X1 (0,0) _ rfl y5 Tryz.underlying100 rfl (by rw [hS1];exact ex_size)) rfl ?_
  refine ⟨_,X1,Lib.hid rfl,hS1,rfl,(hR4.keepM k5 (fun j hj=>by omega)).imp (fun j hj _=>by omega),k04.box k5 hgyw,r4.box k5 hgy2⟩
 ·rw [htk] at H3
  rw [if_pos rfl] at H3
  obtain ⟨⟨b,s5⟩,h1,h2⟩:=Option.bind_eq_some_iff.1 H3
  obtain ⟨⟨c',s7⟩,h3,h4⟩:=Option.bind_eq_some_iff.1 h2
  injection h4 with h4
  injection h4 with e1 e2
  subst e1 e2
  simp only at h3
  have hea:=fun W hq=>ihe (d + 1) (rtake [63] s1).2 s5 b g gv fv W h1 ⟨by omega,by omega⟩ hq
  have hca:=fun W hq=>ihc (d + 1) (rdeep (d + 1) (rmust [58] s5)) s7 c' g gv fv W h3 ⟨by omega,by omega⟩ hq
  clear h1 h2 h3 H3
  go_wp2_with fail
  refine (hea _ r4).mono ?_
  rintro e w5 ⟨V2,X2,hV2,hS2,rfl,hR52,k5,r5⟩
  have y5:=y4.keepM k5 (by omega)
  have z5:=z4.keepM k5 (by omega)
  have q5:=q4.keepM k5 (by omega)
  have k05:=k04.trans k5
  have hR5:=hR4.keepM k5 (fun j hj=>by omega)
  have hR52:=hR52.imp (ok':=fun k=>gy<k) (fun k hk _=>by omega)
  clear hea y4 z4 q4 r4 k04 k5 hR4 lz ly lq fy0
  go_upto_region 6 with (refine wpList_storeV rfl 100 (.tmp 7) (.tmp 25) rfl _ V2 X2 hV2.out rfl rfl 100 _ (BlkIs.fresh _ _ _) (by rw [hS2];exact ex_size) (by rw [hS2];rfl) (Rep.one _ _ hR52) (fun w6 kz6 u6=>?_))
  have b6:=below_box kz6
  have r6:=r5.below b6
  have y6:=y5.below b6 y5.lt
  have z6:=z5.below b6 z5.lt
  have q6:=q5.below b6 q5.lt
  have k06:=k05.trans (KeepM.of b6)
  have hR6:=hR5.below b6
  have hR62:=hR52.below b6
  obtain ⟨g7,hg7⟩:∃ x,Hid (w5.heap.size=x):=⟨_,Lib.hid rfl⟩
  have hg76:g6<g7:=by rw [← hg7.out];exact q5.lt
  rw [hg7.out] at u6 ⊢
  clear kz6 b6 r5 y5 z5 q5 k05 hR5 hR52
  go_wp2_with fail
  refine (rmust_any g gv fv s5 [58] _ r6).mono ?_
  rintro e w7 ⟨rfl,k7,r7⟩
  have y7:=y6.keepM k7 (by omega)
  have z7:=z6.keepM k7 (by omega)
  have q7:=q6.keepM k7 (by omega)
  have u7:=u6.keepM k7 (by omega)
  have k07:=k06.trans k7
  have hR7:=hR6.keepM k7 (fun j hj=>by omega)
  have hR72:=hR62.keepM k7 (fun j hj=>by omega)
  clear y6 z6 q6 u6 k06 hR6 hR62 r6 k7
  have ho:=rok_any g gv fv _ w7 r7
  rcases rdeep_cases (d + 1) (rmust [58] s5) with ⟨o1,c1⟩ | ⟨o1,o2,c1⟩ | ⟨o1,o2,c1⟩
  ·rw [o1] at ho
   go_upto_region 9 with (go_at_call 40;refine ho.mono ?_;rintro e w8 ⟨rfl,rfl⟩)
   rw [c1] at hca
   obtain ⟨w8,rfl⟩:∃ W:World,w7=W:=⟨_,rfl⟩
   have y8:=y7
   have z8:=z7
   have q8:=q7
   have u8:=u7
   have k08:=k07
   have hR8:=hR7
   have hR82:=hR72
   have r8:=r7
   clear c1 o1 ho y7 z7 q7 u7 k07 hR7 hR72 r7
   go_wp2_with fail
   refine (hca _ r8).mono ?_
   rintro e w9 ⟨V3,X3,hV3,hS3,rfl,hR93,k9,r9⟩
   have y9:=y8.keepM k9 (by omega)
   have z9:=z8.keepM k9 (by omega)
   have q9:=q8.keepM k9 (by omega)
   have u9:=u8.keepM k9 (by omega)
   have k09:=k08.trans k9
   have hR9:=hR8.keepM k9 (fun j hj=>by omega)
   have hR92:=hR82.keepM k9 (fun j hj=>by omega)
   have hs8:=u8.lt
   have hR93:=hR93.imp (ok':=fun k=>gy<k) (fun k hk _=>by omega)
   clear hca y8 z8 q8 u8 k08 hR8 hR82 r8 k9
   go_upto_region 10 with (refine wpList_storeV rfl 100 (.tmp 8) (.tmp 40) rfl _ V3 X3 hV3.out rfl rfl 100 _ (BlkIs.fresh _ _ _) (by rw [hS3];exact ex_size) (by rw [hS3];rfl) (Rep.one _ _ hR93) (fun w10 kz10 v10=>?_))
   have b10:=below_box kz10
   have r10:=r9.below b10
   have y10:=y9.below b10 y9.lt
   have z10:=z9.below b10 z9.lt
   have q10:=q9.below b10 q9.lt
   have u10:=u9.below b10 u9.lt
   have k010:=k09.trans (KeepM.of b10)
   have hR10:=hR9.below b10
   have hR102:=hR92.below b10
   have hR103:=hR93.below b10
   obtain ⟨g8,hg8⟩:∃ x,Hid (w9.heap.size=x):=⟨_,Lib.hid rfl⟩
   have hg87:g7<g8:=by rw [← hg8.out];exact u9.lt
   rw [hg8.out] at v10 ⊢
   clear kz10 b10 r9 y9 z9 q9 u9 k09 hR9 hR92 hR93
   have lz:=z10.lt
   have ly:=y10.lt
   have lq:=q10.lt
   have lu:=u10.lt
   have lv:=v10.lt
   have c3:w10.cell? ⟨g6,3,none⟩=some (.int .i64 p):=q10.cell 3
   have hA:AllEx w10 (fun k=>gy<k) [a,b,c'] [X1,X2,X3]:=⟨hS1,hR10,hS2,hR102,hS3,hR103,trivial⟩
   go_wp2_with (first
    | (refine wpList_loadV rfl 100 (.tmp 5) rfl g5 V1 X1 hV1.out rfl 100 _ z10 Tryz.underlying100 rfl (by rw [hS1];exact ex_size) ?_)
    | (refine wpList_loadV rfl 100 (.tmp 7) rfl g7 V2 X2 hV2.out rfl 100 _ u10 Tryz.underlying100 rfl (by rw [hS2];exact ex_size) ?_)
    | (refine wpList_loadV rfl 100 (.tmp 8) rfl g8 V3 X3 hV3.out rfl 100 _ v10 Tryz.underlying100 rfl (by rw [hS3];exact ex_size) ?_)
    | (refine wpList_exs rfl 3 _ rfl [V1,V2,V3] [X1,X2,X3] (by rw [hV1.out,hV2.out,hV3.out];rfl) rfl rfl (hA.sizes) rfl (by decide) (by decide) (fun w11 hb11 hs11=>?_);have c11:w11.cell? ⟨g6,3,none⟩=some (.int .i64 p):=(q10.below hb11 lq).cell 3;have l11:=(q10.below hb11 lq).lt)
    | (refine wpList_storeV rfl 100 (.tmp 4) (.tmp 47) rfl gy _ _ rfl rfl rfl 100 _ (y10.below hb11 ly) ex_size rfl (by simp [Value.oneCell']) (fun w12 k12 y12=>?_)))
   refine bodyPost_ret (results_cell_row rfl _ _ gy 100 _ (0,0) _ rfl y12 Tryz.underlying100 rfl ex_size) rfl ?_
   refine ⟨_,_,Lib.hid rfl,rfl,rfl,?_,(k010.trans (KeepM.of hb11)).box k12 hgyw,(r10.below hb11).box k12 hgy2⟩
   refine rep_ex.2 ⟨some ⟨w10.heap.size,0,none⟩,3,rfl,?_⟩
   exact ((hs11 _ _ hA).keepM k12 (fun j hj=>by omega)).imp (fun j hj _=>by omega)
  ·rw [o1] at ho
   have o3:decide ((20:Int)<d + 1)=false:=by simpa using o2
   clear o2
   go_upto_region 9 with (go_at_call 40;refine ho.mono ?_;rintro e w8 ⟨rfl,rfl⟩)
   rw [c1] at hca
   obtain ⟨w8,rfl⟩:∃ W:World,w7=W:=⟨_,rfl⟩
   have y8:=y7
   have z8:=z7
   have q8:=q7
   have u8:=u7
   have k08:=k07
   have hR8:=hR7
   have hR82:=hR72
   have r8:=r7
   clear c1 o1 ho y7 z7 q7 u7 k07 hR7 hR72 r7
   go_wp2_with fail
   refine (hca _ r8).mono ?_
   rintro e w9 ⟨V3,X3,hV3,hS3,rfl,hR93,k9,r9⟩
   have y9:=y8.keepM k9 (by omega)
   have z9:=z8.keepM k9 (by omega)
   have q9:=q8.keepM k9 (by omega)
   have u9:=u8.keepM k9 (by omega)
   have k09:=k08.trans k9
   have hR9:=hR8.keepM k9 (fun j hj=>by omega)
   have hR92:=hR82.keepM k9 (fun j hj=>by omega)
   have hs8:=u8.lt
   have hR93:=hR93.imp (ok':=fun k=>gy<k) (fun k hk _=>by omega)
   clear hca y8 z8 q8 u8 k08 hR8 hR82 r8 k9
   go_upto_region 10 with (refine wpList_storeV rfl 100 (.tmp 8) (.tmp 40) rfl _ V3 X3 hV3.out rfl rfl 100 _ (BlkIs.fresh _ _ _) (by rw [hS3];exact ex_size) (by rw [hS3];rfl) (Rep.one _ _ hR93) (fun w10 kz10 v10=>?_))
   have b10:=below_box kz10
   have r10:=r9.below b10
   have y10:=y9.below b10 y9.lt
   have z10:=z9.below b10 z9.lt
   have q10:=q9.below b10 q9.lt
   have u10:=u9.below b10 u9.lt
   have k010:=k09.trans (KeepM.of b10)
   have hR10:=hR9.below b10
   have hR102:=hR92.below b10
   have hR103:=hR93.below b10
   obtain ⟨g8,hg8⟩:∃ x,Hid (w9.heap.size=x):=⟨_,Lib.hid rfl⟩
   have hg87:g7<g8:=by rw [← hg8.out];exact u9.lt
   rw [hg8.out] at v10 ⊢
   clear kz10 b10 r9 y9 z9 q9 u9 k09 hR9 hR92 hR93
   have lz:=z10.lt
   have ly:=y10.lt
   have lq:=q10.lt
   have lu:=u10.lt
   have lv:=v10.lt
   have c3:w10.cell? ⟨g6,3,none⟩=some (.int .i64 p):=q10.cell 3
   have hA:AllEx w10 (fun k=>gy<k) [a,b,c'] [X1,X2,X3]:=⟨hS1,hR10,hS2,hR102,hS3,hR103,trivial⟩
   go_wp2_with (first
    | (refine wpList_loadV rfl 100 (.tmp 5) rfl g5 V1 X1 hV1.out rfl 100 _ z10 Tryz.underlying100 rfl (by rw [hS1];exact ex_size) ?_)
    | (refine wpList_loadV rfl 100 (.tmp 7) rfl g7 V2 X2 hV2.out rfl 100 _ u10 Tryz.underlying100 rfl (by rw [hS2];exact ex_size) ?_)
    | (refine wpList_loadV rfl 100 (.tmp 8) rfl g8 V3 X3 hV3.out rfl 100 _ v10 Tryz.underlying100 rfl (by rw [hS3];exact ex_size) ?_)
    | (refine wpList_exs rfl 3 _ rfl [V1,V2,V3] [X1,X2,X3] (by rw [hV1.out,hV2.out,hV3.out];rfl) rfl rfl (hA.sizes) rfl (by decide) (by decide) (fun w11 hb11 hs11=>?_);have c11:w11.cell? ⟨g6,3,none⟩=some (.int .i64 p):=(q10.below hb11 lq).cell 3;have l11:=(q10.below hb11 lq).lt)
    | (refine wpList_storeV rfl 100 (.tmp 4) (.tmp 47) rfl gy _ _ rfl rfl rfl 100 _ (y10.below hb11 ly) ex_size rfl (by simp [Value.oneCell']) (fun w12 k12 y12=>?_)))
   refine bodyPost_ret (results_cell_row rfl _ _ gy 100 _ (0,0) _ rfl y12 Tryz.underlying100 rfl ex_size) rfl ?_
   refine ⟨_,_,Lib.hid rfl,rfl,rfl,?_,(k010.trans (KeepM.of hb11)).box k12 hgyw,(r10.below hb11).box k12 hgy2⟩
   refine rep_ex.2 ⟨some ⟨w10.heap.size,0,none⟩,3,rfl,?_⟩
   exact ((hs11 _ _ hA).keepM k12 (fun j hj=>by omega)).imp (fun j hj _=>by omega)
  ·rw [o1] at ho
   have o3:decide ((20:Int)<d + 1)=true:=by simpa using o2
   clear o2
   go_upto_region 9 with (first | (go_at_call 40;refine ho.mono ?_;rintro e w8 ⟨rfl,rfl⟩) | (go_at_call 45;refine (rfail_any g gv fv _ 2 w7 r7).mono ?_;rintro e w8 ⟨rfl,k8,r8⟩))
   rw [c1] at hca
   have y8:=y7.keepM k8 (by omega)
   have z8:=z7.keepM k8 (by omega)
   have q8:=q7.keepM k8 (by omega)
   have u8:=u7.keepM k8 (by omega)
   have k08:=k07.trans k8
   have hR8:=hR7.keepM k8 (fun j hj=>by omega)
   have hR82:=hR72.keepM k8 (fun j hj=>by omega)
   clear c1 o1 ho y7 z7 q7 u7 k07 hR7 hR72 r7 k8
   go_wp2_with fail
   refine (hca _ r8).mono ?_
   rintro e w9 ⟨V3,X3,hV3,hS3,rfl,hR93,k9,r9⟩
   have y9:=y8.keepM k9 (by omega)
   have z9:=z8.keepM k9 (by omega)
   have q9:=q8.keepM k9 (by omega)
   have u9:=u8.keepM k9 (by omega)
   have k09:=k08.trans k9
   have hR9:=hR8.keepM k9 (fun j hj=>by omega)
   have hR92:=hR82.keepM k9 (fun j hj=>by omega)
   have hs8:=u8.lt
   have hR93:=hR93.imp (ok':=fun k=>gy<k) (fun k hk _=>by omega)
   clear hca y8 z8 q8 u8 k08 hR8 hR82 r8 k9
   go_upto_region 10 with (refine wpList_storeV rfl 100 (.tmp 8) (.tmp 40) rfl _ V3 X3 hV3.out rfl rfl 100 _ (BlkIs.fresh _ _ _) (by rw [hS3];exact ex_size) (by rw [hS3];rfl) (Rep.one _ _ hR93) (fun w10 kz10 v10=>?_))
   have b10:=below_box kz10
   have r10:=r9.below b10
   have y10:=y9.below b10 y9.lt
   have z10:=z9.below b10 z9.lt
   have q10:=q9.below b10 q9.lt
   have u10:=u9.below b10 u9.lt
   have k010:=k09.trans (KeepM.of b10)
   have hR10:=hR9.below b10
   have hR102:=hR92.below b10
   have hR103:=hR93.below b10
   obtain ⟨g8,hg8⟩:∃ x,Hid (w9.heap.size=x):=⟨_,Lib.hid rfl⟩
   have hg87:g7<g8:=by rw [← hg8.out];exact u9.lt
   rw [hg8.out] at v10 ⊢
   clear kz10 b10 r9 y9 z9 q9 u9 k09 hR9 hR92 hR93
   have lz:=z10.lt
   have ly:=y10.lt
   have lq:=q10.lt
   have lu:=u10.lt
   have lv:=v10.lt
   have c3:w10.cell? ⟨g6,3,none⟩=some (.int .i64 p):=q10.cell 3
   have hA:AllEx w10 (fun k=>gy<k) [a,b,c'] [X1,X2,X3]:=⟨hS1,hR10,hS2,hR102,hS3,hR103,trivial⟩
   go_wp2_with (first
    | (refine wpList_loadV rfl 100 (.tmp 5) rfl g5 V1 X1 hV1.out rfl 100 _ z10 Tryz.underlying100 rfl (by rw [hS1];exact ex_size) ?_)
    | (refine wpList_loadV rfl 100 (.tmp 7) rfl g7 V2 X2 hV2.out rfl 100 _ u10 Tryz.underlying100 rfl (by rw [hS2];exact ex_size) ?_)
    | (refine wpList_loadV rfl 100 (.tmp 8) rfl g8 V3 X3 hV3.out rfl 100 _ v10 Tryz.underlying100 rfl (by rw [hS3];exact ex_size) ?_)
    | (refine wpList_exs rfl 3 _ rfl [V1,V2,V3] [X1,X2,X3] (by rw [hV1.out,hV2.out,hV3.out];rfl) rfl rfl (hA.sizes) rfl (by decide) (by decide) (fun w11 hb11 hs11=>?_);have c11:w11.cell? ⟨g6,3,none⟩=some (.int .i64 p):=(q10.below hb11 lq).cell 3;have l11:=(q10.below hb11 lq).lt)
    | (refine wpList_storeV rfl 100 (.tmp 4) (.tmp 47) rfl gy _ _ rfl rfl rfl 100 _ (y10.below hb11 ly) ex_size rfl (by simp [Value.oneCell']) (fun w12 k12 y12=>?_)))
   refine bodyPost_ret (results_cell_row rfl _ _ gy 100 _ (0,0) _ rfl y12 Tryz.underlying100 rfl ex_size) rfl ?_
   refine ⟨_,_,Lib.hid rfl,rfl,rfl,?_,(k010.trans (KeepM.of hb11)).box k12 hgyw,(r10.below hb11).box k12 hgy2⟩
   refine rep_ex.2 ⟨some ⟨w10.heap.size,0,none⟩,3,rfl,?_⟩
   exact ((hs11 _ _ hA).keepM k12 (fun j hj=>by omega)).imp (fun j hj _=>by omega)
end Go.Proofs.YtdmacgoeikjdbaaGreatDoor

/- A token appended to a slice of the call's own. Any order of a region's -/
import Derived.Test.YtdmacgoeikjdbaaGreatDoorL01
import Derived.Test.YtdmacgoeikjdbaaGreatDoorProg
import Derived.OrdersHeld
import Derived.RegionTactic
import Derived.Maps.AppendAt
import Derived.Laws.Tables
import Derived.Laws.Rows
import Derived.Lib.Hide
import Derived.Deep.MidRow
import Derived.Great.BuildSlice
set_option linter.unusedSimpArgs false
set_option linter.unusedVariables false
namespace Go.Proofs.YtdmacgoeikjdbaaGreatDoor
open Go.RowKit
theorem tok_info:(Tryz.prog.info? 43).map (fun i=>(i.zero,i.size,i.bytes))=some (some (.agg #[.int .i64 0,.string ⟨#[]⟩,.int .i64 0,.int .i64 0]),4,40):=by kernel_rfl
theorem tok_one (a:Int) (b:ByteArray) (c d:Int):∀ u ∈ [Value.int .i64 a,.string b,.int .i64 c,.int .i64 d],u.oneCell'=true:=by
 intro u hu
 simp only [List.mem_cons,List.not_mem_nil,or_false] at hu
 rcases hu with rfl | rfl | rfl | rfl <;> rfl
def TokRow (w:World) (B:Nat) (v:Value) (ts:List Tok):Prop:=w.ownsRow B 43 4 v ts.length (flat ts)
section
variable {w w':World} {B:Nat} {v:Value} {ts:List Tok}
theorem TokRow.nil (w:World) (B:Nat):TokRow w B (.slice none 0 0) []:=⟨by simp [flat],.inl ⟨rfl,rfl⟩⟩
end
def TokensPost (B:Nat) (w:World) (r:List Tok × Int × Int) (e:Ending) (w':World):Prop:=
 ∃ v:Value,e=.returned (.tuple #[v,.agg #[.int .i64 r.2.1,.int .i64 r.2.2]])∧TokRow w' B v r.1∧Below B w w'
end Go.Proofs.YtdmacgoeikjdbaaGreatDoor
namespace Go.Proofs.YtdmacgoeikjdbaaGreatDoor
open Go.RowKit
section
variable {P:Program} {ops:Array Oper} {Q:Exit→Act→World→Prop} {md:Region.Mode} {S:World→Prop} {last:Nat}
def AnyJ (P:Program) (md:Region.Mode) (ops:Array Oper) (Q:Exit→Act→World→Prop) (S:World→Prop) (last:Nat):Nat→Array Bool→Act→World→Prop
 | 0,listed,a,w=>Region.ready md ops listed=[]∧Q .normal a w
 | fuel + 1,listed,a,w=>
  (Region.ready md ops listed=[]→Q .normal a w) ∧
  ∀ i ∈ Region.ready md ops listed,wpOp P ops Q i (fun a' w'=>(i ≠ last→S w')∧AnyJ P md ops Q S last fuel (listed.setIfInBounds i true) a' w') a w
theorem anyJ_any:∀ (fuel:Nat) (listed:Array Bool) (a:Act) (w:World),AnyJ P md ops Q S last fuel listed a w→wpAny P md ops Q fuel listed a w
 | 0,_,_,_,h=>h
 | fuel + 1,_,_,_,h=>⟨h.1,fun i hi=>wpOp_mono (fun a' w' h'=>anyJ_any fuel _ a' w' h'.2) (h.2 i hi)⟩
def Waits (md:Region.Mode) (ops:Array Oper) (last:Nat):Bool:=(List.range ops.size).all fun i=>i == last || (match ops[last]? with | some o=>o.after.any fun e=>Region.binds md e && e.on == i | none=>false)
def WaitsI (md:Region.Mode) (ops:Array Oper) (last i:Nat):Bool:=match ops[last]? with
 | some o=>o.after.any fun e=>Region.binds md e && e.on == i
 | none=>false
theorem waitsI_spec {i:Nat} (h:WaitsI md ops last i=true):∃ o,ops[last]?=some o∧∃ e ∈ o.after,Region.binds md e=true∧e.on=i:=by
 unfold WaitsI at h
 split at h
 ·rename_i o ho
  obtain ⟨j,hj,h2⟩:=Array.any_eq_true.1 h
  rw [Bool.and_eq_true] at h2
  exact ⟨o,ho,o.after[j],Array.getElem_mem hj,h2.1,by simpa using h2.2⟩
 ·cases h
theorem anyJ_first {i:Nat} (hw:WaitsI md ops last i=true) {oi:Oper} {v:Value} (hi:ops[i]?=some oi) (_hne:i ≠ last) (hsel:∀ (j:Nat) (o:Oper) cs b,ops[j]?=some o→o.op ≠ .select cs b)
  (hQ:∀ c a w,Q (.panic c) (a.put oi.dst v) w→Q (.panic c) a w) :
  ∀ (fuel:Nat) (listed:Array Bool) (a:Act) (w:World),
   (∀ j oj,ops[j]?=some oj→j ≠ i→listed.getD j true=false→(∀ e ∈ oj.after,Region.binds md e=true→e.on ≠ i)→oi.apart ops oj=true) →
   i ∈ Region.ready md ops listed→YieldsIf P ops S oi v a→S w →
   AnyJ P md ops Q S last fuel (listed.setIfInBounds i true) (a.put oi.dst v) w→AnyJ P md ops Q S last (fuel + 1) listed a w:=by
 intro fuel
 have hil:i<ops.size:=(Array.getElem?_eq_some_iff.1 hi).1
 have hno:∀ (listed:Array Bool) (j:Nat),i ∈ Region.ready md ops listed→j ∈ Region.ready md ops listed→j ≠ i→(∀ oj,ops[j]?=some oj→∀ e ∈ oj.after,Region.binds md e=true→e.on ≠ i)∧j ≠ last:=by
  intro listed j hri hrj hji
  obtain ⟨_,oj,hoj,hall⟩:=mem_ready.1 hrj
  have h0:=(mem_ready.1 hri).1
  have key:∀ e ∈ oj.after,Region.binds md e=true→e.on ≠ i:=fun e he hb heq=>by
   have h1:=hall e he hb
   rw [heq] at h1
   rcases Nat.lt_or_ge i listed.size with h' | h'
   ·simp [h'] at h0 h1;rw [h0] at h1;cases h1
   ·simp [Array.getElem?_eq_none h'] at h1
  refine ⟨fun o ho=>?_,fun hjl=>?_⟩
  ·rw [hoj] at ho
   injection ho with ho
   subst ho
   exact key
  ·subst hjl
   obtain ⟨o,ho,e,he,hb,hon⟩:=waitsI_spec hw
   rw [hoj] at ho
   injection ho with ho
   subst ho
   exact key e he hb hon
 induction fuel with
 | zero=>
  intro listed a w _ hr hy hS H
  refine ⟨fun h=>(by rw [h] at hr;cases hr),fun j hj=>?_⟩
  by_cases hji:j=i
  ·subst hji;exact hy.wpOp hi hS ⟨fun _=>hS,H⟩
  ·have:=ready_mono hj hji
   rw [H.1] at this
   cases this
 | succ fuel ih=>
  intro listed a w hfree hr hy hS H
  refine ⟨fun h=>(by rw [h] at hr;cases hr),fun j hj=>?_⟩
  by_cases hji:j=i
  ·subst hji;exact hy.wpOp hi hS ⟨fun _=>hS,H⟩
  ·have h1:=H.2 j (ready_mono hj hji)
   obtain ⟨hjun,oj,hoj,_⟩:=mem_ready.1 hj
   obtain ⟨hnot,hjl⟩:=hno listed j hr hj hji
   have h2:=wpOp_putIf hoj (hfree j oj hoj hji hjun (hnot oj hoj)) (fun cs b=>hsel i oi cs b hi) (fun cs b=>hsel j oj cs b hoj) hQ hy h1
   have hfree':∀ k ok,ops[k]?=some ok→k ≠ i→(listed.setIfInBounds j true).getD k true=false →
     (∀ e ∈ ok.after,Region.binds md e=true→e.on ≠ i)→oi.apart ops ok=true:=fun k ok hk hki hun hn=>by
    refine hfree k ok hk hki ?_ hn
    by_cases hjk:j=k
    ·subst hjk;exact hjun
    ·rw [getD_set_ne true hjk] at hun;exact hun
   refine wpOp_mono (fun a' w' h3=>⟨h3.2.1,ih (listed.setIfInBounds j true) a' w' hfree' (ready_mono hr (Ne.symm hji)) h3.1 (h3.2.1 hjl) ?_⟩) h2
   rw [Array.setIfInBounds_comm _ _ hji]
   exact h3.2.2
theorem anyJ_begin {id:Nat} {a:Act} {w:World} (last:Nat) (S:World→Prop) (hm:P.follows .mixedOrders=true) (hS:S w.drew)
  (h:S w.drew→AnyJ P .any ops Q S last ops.size (Array.replicate ops.size false) a w.drew):(Code.region id ops true).wp P Q a w:=
 wp_region_any hm (anyJ_any _ _ _ _ (h hS))
theorem anyJ_take {i:Nat} {oi:Oper} {d:Option Tmp} {v:Value} {fuel:Nat} {listed:Array Bool} {a:Act} {w:World} (hi:ops[i]?=some oi) (hd:oi.dst=d) (hw:WaitsI md ops last i=true) (hne:(i == last)=false)
  (hs:Region.noSelect ops=true) (hf:Region.free md ops listed i=true) (hr:(Region.ready md ops listed).contains i=true)
  (hQ:∀ c a w,Q (.panic c) (a.put d v) w→Q (.panic c) a w) (hwt:Region.wanted oi (yielded ops a.tmps)=true) (hy:∀ w,S w→(execOp a.eval oi).run P w=.ok (.value v) w) (hS:S w)
  (h:AnyJ P md ops Q S last fuel (listed.setIfInBounds i true) (a.put d v) w):AnyJ P md ops Q S last (fuel + 1) listed a w:=by
 subst hd
 exact anyJ_first hw hi (by simpa using hne) (Region.noSelect_spec hs) hQ fuel listed a w (Region.free_spec hi hf) (by simpa using hr) (.inl ⟨hwt,hy⟩) hS h
theorem anyJ_only {i:Nat} {o:Oper} {d:Option Tmp} {fuel:Nat} {listed:Array Bool} {a:Act} {w:World} (hr:Region.ready md ops listed=[i]) (ho:ops[i]?=some o) (hd:o.dst=d) (hwt:Region.wanted o (yielded ops a.tmps)=true)
  (h:∀ K':Act→World→Prop,Hid (∀ v w,(i ≠ last→S w)→((i ≠ last→S w)→AnyJ P md ops Q S last fuel (listed.setIfInBounds i true) (a.put d v) w)→K' (a.put o.dst v) w)→Oper.wp P o a w K' Q):AnyJ P md ops Q S last (fuel + 1) listed a w:=by
 subst hd
 refine ⟨fun h0=>absurd (hr ▸ h0) (by simp),fun j hj=>?_⟩
 rw [hr] at hj
 obtain rfl:j=i:=by simpa using hj
 exact wpOp_step ho (fun K' hK=>by rw [if_pos hwt];exact h K' (Lib.hid (fun v w hS hW=>hK _ w ⟨hS,hW hS⟩)))
theorem anyJ_done {listed:Array Bool} {a:Act} {w:World} (hr:Region.ready md ops listed=[]) (h:Q .normal a w):∀ fuel,AnyJ P md ops Q S last fuel listed a w
 | 0=>⟨hr,h⟩
 | _ + 1=>⟨fun _=>h,by rw [hr];simp⟩
end
def takeOk (md:Region.Mode) (ops:Array Oper) (listed:Array Bool) (last i:Nat):Bool:=WaitsI md ops last i && !(i == last) && Region.noSelect ops && Region.free md ops listed i && (Region.ready md ops listed).contains i
section
variable {P:Program} {ops:Array Oper} {Q:Exit→Act→World→Prop} {md:Region.Mode} {S:World→Prop} {last:Nat}
theorem take {i:Nat} {oi:Oper} {d:Option Tmp} {v:Value} {fuel:Nat} {listed:Array Bool} {a:Act} {w:World} (hk:takeOk md ops listed last i=true) (hi:ops[i]?=some oi) (hd:oi.dst=d) (hwt:Region.wanted oi (yielded ops a.tmps)=true)
  (hQ:∀ c a w,Q (.panic c) (a.put d v) w→Q (.panic c) a w) (hS:S w) (hy:∀ w,S w→(execOp a.eval oi).run P w=.ok (.value v) w)
  (h:AnyJ P md ops Q S last fuel (listed.setIfInBounds i true) (a.put d v) w):AnyJ P md ops Q S last (fuel + 1) listed a w:=by
 unfold takeOk at hk
 simp only [Bool.and_eq_true,Bool.not_eq_true'] at hk
 obtain ⟨⟨⟨⟨h1,h2⟩,h3⟩,h4⟩,h5⟩:=hk
 exact anyJ_take hi hd h1 h2 h3 h4 h5 hQ hwt hy hS h
theorem wp_go_call {o:Oper} {a:Act} {w:World} {K:Act→World→Prop} (f:FuncId) (xs:Array Operand) (ts:Array TypeId) (ho:o.op=.call { callee:=.value (.func f),args:=xs,argTypes:=ts }) (vs:Array Value) (hv:xs.toList.map a.eval=vs.toList) (hf:∀ w,(callFunc f vs).run P w=.ok (.enter f vs) w) {Post:Ending→World→Prop}
  (hc:Calls P f vs w Post) (h:∀ e w',Post e w'→∃ v,e=.returned v∧K (a.put o.dst v) w'):o.wp P a w K Q:=by
 have hv2:xs.map a.eval=vs:=by rw [← Array.toList_inj,Array.toList_map];exact hv
 subst hv2
 unfold Oper.wp execOp
 simp only [ho,resolve,invoke,Act.eval,Sem.run_bind]
 have e1:(Deferred.ofValue (Value.func (Fn.func f) #[] #[]) (xs.map a.eval)).run P w=.ok { target:=.fn (.func f) #[],args:=xs.map a.eval } w:=by
  simp [Deferred.ofValue]
 rw [e1]
 simp only [Result.andThen_ok,Array.append_empty]
 rw [hf]
 simp only [Oper.upon]
 refine hc.mono fun e w' he=>?_
 obtain ⟨v,rfl,hv⟩:=h e w' he
 exact hv
theorem wp_val {o:Oper} {a:Act} {w w':World} {K:Act→World→Prop} {v:Value} (hr:(execOp a.eval o).run P w=.ok (.value v) w') (h:K (a.put o.dst v) w'):o.wp P a w K Q:=by
 unfold Oper.wp
 rw [hr]
 exact h
theorem wp_skip {o:Oper} {a:Act} {w w':World} {K:Act→World→Prop} (hr:(execOp a.eval o).run P w=.ok .skip w') (h:K (a.put o.dst undef) w'):o.wp P a w K Q:=by
 unfold Oper.wp
 rw [hr]
 exact h
theorem exec_load_row {o:Oper} {a:Act} {w:World} {ty:TypeId} {x:Operand} (ho:o.op=.load ty x) {g:Nat} (hx:a.eval x=.pointer (some ⟨g,0,none⟩)) {t:TypeId} {cs:Array Value} {fr:Nat × Nat} {d:TypeDesc} (hg:w.heap[g]?=some (.cells cs t fr))
  (hu:P.underlying ty=some d) (hd:(match d with | .struct _ | .array _ _=>true | _=>false)=true) (hi:(P.info? ty).map (·.size)=some cs.size):(execOp a.eval o).run P w=.ok (.value (.agg cs)) w:=by
 unfold execOp
 simp only [ho,hx,Instr.loadAt,Instr.sureAddr,Sem.run_bind,Sem.run_pure,Result.andThen_ok]
 rw [run_loadVar_row w g t ty cs fr d hg hu hd hi]
 rfl
theorem exec_load_mid {o:Oper} {a:Act} {w:World} {ty:TypeId} {x:Operand} (ho:o.op=.load ty x) {b off:Nat} (hx:a.eval x=.pointer (some ⟨b,off,none⟩)) {cs:List Value} {d:TypeDesc} (hg:w.rangeAt b off cs)
  (hu:P.underlying ty=some d) (hd:d.isRow=true) (hi:(P.info? ty).map (·.size)=some cs.length):(execOp a.eval o).run P w=.ok (.value (.agg cs.toArray)) w:=by
 unfold execOp
 simp only [ho,hx,Instr.loadAt,Instr.sureAddr,Sem.run_bind,Sem.run_pure,Result.andThen_ok,run_loadVar_mid w b off ty cs d hg hu hd hi]
end
end Go.Proofs.YtdmacgoeikjdbaaGreatDoor
namespace Go.Proofs.YtdmacgoeikjdbaaGreatDoor
open Go.RowKit
def takeHOk (md:Region.Mode) (ops:Array Oper) (listed:Array Bool) (i:Nat):Bool:=Region.noSelect ops && Region.free md ops listed i && (Region.ready md ops listed).contains i
section
variable {P:Program} {ops:Array Oper} {Q:Exit→Act→World→Prop} {md:Region.Mode} {S:World→Prop}
theorem beginH {id:Nat} {a:Act} {w:World} (S:World→Prop) (hm:P.follows .mixedOrders=true) (hS:S w.drew)
  (h:S w.drew→wpAnyH P .any ops Q S ops.size (Array.replicate ops.size false) a w.drew):(Code.region id ops true).wp P Q a w:=wp_region_held hm (h hS)
theorem takeH {i:Nat} {oi:Oper} {d:Option Tmp} {v:Value} {fuel:Nat} {listed:Array Bool} {a:Act} {w:World} (hk:takeHOk md ops listed i=true) (hi:ops[i]?=some oi) (hd:oi.dst=d) (hwt:Region.wanted oi (yielded ops a.tmps)=true)
  (hQ:∀ c a w,Q (.panic c) (a.put d v) w→Q (.panic c) a w) (hS:S w) (hy:∀ w,S w→(execOp a.eval oi).run P w=.ok (.value v) w)
  (h:wpAnyH P md ops Q S fuel (listed.setIfInBounds i true) (a.put d v) w):wpAnyH P md ops Q S (fuel + 1) listed a w:=by
 unfold takeHOk at hk
 simp only [Bool.and_eq_true] at hk
 obtain ⟨⟨h3,h4⟩,h5⟩:=hk
 subst hd
 exact wpAnyH_take hi h3 h4 h5 hQ (.inl ⟨hwt,hy⟩) hS h
theorem onlyH {i:Nat} {o:Oper} {d:Option Tmp} {fuel:Nat} {listed:Array Bool} {a:Act} {w:World} (hr:Region.ready md ops listed=[i]) (ho:ops[i]?=some o) (hd:o.dst=d) (hwt:Region.wanted o (yielded ops a.tmps)=true)
  (h:∀ K':Act→World→Prop,Hid (∀ v w,S w→(S w→wpAnyH P md ops Q S fuel (listed.setIfInBounds i true) (a.put d v) w)→K' (a.put o.dst v) w)→Oper.wp P o a w K' Q):wpAnyH P md ops Q S (fuel + 1) listed a w:=by
 subst hd
 refine ⟨fun h0=>absurd (hr ▸ h0) (by simp),fun j hj=>?_⟩
 rw [hr] at hj
 obtain rfl:j=i:=by simpa using hj
 exact wpOp_step ho (fun K' hK=>by rw [if_pos hwt];exact h K' (Lib.hid (fun v w hS hW=>hK _ w ⟨hS,hW hS⟩)))
theorem skipH {i:Nat} {oi:Oper} {d:Option Tmp} {fuel:Nat} {listed:Array Bool} {a:Act} {w:World} (hk:takeHOk md ops listed i=true) (hi:ops[i]?=some oi) (hd:oi.dst=d) (hwt:Region.wanted oi (yielded ops a.tmps)=false)
  (hQ:∀ c a w,Q (.panic c) (a.put d undef) w→Q (.panic c) a w) (hS:S w)
  (h:wpAnyH P md ops Q S fuel (listed.setIfInBounds i true) (a.put d undef) w):wpAnyH P md ops Q S (fuel + 1) listed a w:=by
 unfold takeHOk at hk
 simp only [Bool.and_eq_true] at hk
 obtain ⟨⟨h3,h4⟩,h5⟩:=hk
 subst hd
 exact wpAnyH_take hi h3 h4 h5 hQ (.inr ⟨hwt,rfl⟩) hS h
end
end Go.Proofs.YtdmacgoeikjdbaaGreatDoor
namespace Go.Proofs.YtdmacgoeikjdbaaGreatDoor
open Go.RowKit
section
variable {P:Program} {ops:Array Oper} {Q:Exit→Act→World→Prop} {md:Region.Mode} {S:World→Prop} {last:Nat}
def predsOf (md:Region.Mode) (ops:Array Oper) (k:Nat):List Nat:=match ops[k]? with
 | some o=>(o.after.toList.filter fun e=>Region.binds md e).map (·.on)
 | none=>[]
theorem predsOf_mem {k:Nat} {o:Oper} (ho:ops[k]?=some o) {i:Nat}:i ∈ predsOf md ops k ↔ ∃ e ∈ o.after,Region.binds md e=true∧e.on=i:=by
 unfold predsOf
 rw [ho]
 simp [List.mem_map,List.mem_filter,and_assoc]
def SuccB (md:Region.Mode) (ops:Array Oper) (last:Nat):Bool:=(List.range ops.size).all fun i=>i == last || (List.range ops.size).any fun k=>decide (i<k) && (predsOf md ops k).contains i
def Closed (md:Region.Mode) (ops:Array Oper) (listed:Array Bool):Prop:=∀ k o,ops[k]?=some o→listed.getD k false=true→∀ e ∈ o.after,Region.binds md e=true→listed.getD e.on false=true
def closedB (md:Region.Mode) (ops:Array Oper) (listed:Array Bool):Bool:=(List.range ops.size).all fun k=>!(listed.getD k false) || (predsOf md ops k).all fun m=>listed.getD m false
theorem closedB_spec {listed:Array Bool} (h:closedB md ops listed=true):Closed md ops listed:=by
 intro k o ho hk e he hb
 have hkl:k<ops.size:=(Array.getElem?_eq_some_iff.1 ho).1
 have h1:=List.all_eq_true.1 h k (by simpa using hkl)
 rw [hk,Bool.not_true,Bool.false_or] at h1
 exact List.all_eq_true.1 h1 e.on ((predsOf_mem ho).2 ⟨e,he,hb,rfl⟩)
theorem getD_true {listed:Array Bool} {m:Nat} (j:Nat) (h:listed.getD m false=true):(listed.setIfInBounds j true).getD m false=true:=by
 by_cases hjm:j=m
 ·subst hjm
  rcases Nat.lt_or_ge j listed.size with h' | h'
  ·simp [Array.getD,h']
  ·simp [Array.getD,Nat.not_lt.2 h'] at h
 ·rw [getD_set_ne false hjm];exact h
theorem Closed.list {listed:Array Bool} {j:Nat} (h:Closed md ops listed) (hj:j ∈ Region.ready md ops listed):Closed md ops (listed.setIfInBounds j true):=by
 intro k o ho hk e he hb
 refine getD_true j ?_
 by_cases hjk:j=k
 ·subst hjk
  obtain ⟨_,oj,hoj,hall⟩:=mem_ready.1 hj
  rw [hoj] at ho
  injection ho with ho
  subst ho
  exact hall e he hb
 ·rw [getD_set_ne false hjk] at hk
  exact h k o ho hk e he hb
theorem last_all {listed:Array Bool} (hs:SuccB md ops last=true) (hc:Closed md ops listed) (hr:last ∈ Region.ready md ops listed):∀ n i,ops.size - i≤n→i<ops.size→i ≠ last→listed.getD i false=true
 | 0,i,hn,hi,_=>by omega
 | n + 1,i,hn,hi,hne=>by
  have h1:=List.all_eq_true.1 hs i (by simpa using hi)
  rw [Bool.or_eq_true] at h1
  rcases h1 with h1 | h1
  ·exact absurd (by simpa using h1) hne
  ·obtain ⟨k,hk,h2⟩:=List.any_eq_true.1 h1
   rw [Bool.and_eq_true,decide_eq_true_eq] at h2
   have hkl:k<ops.size:=by simpa using hk
   have ho:ops[k]?=some ops[k]:=Array.getElem?_eq_getElem hkl
   obtain ⟨e,he,hb,hon⟩:=(predsOf_mem (md:=md) ho).1 (by simpa using h2.2)
   rw [← hon]
   by_cases hkL:k=last
   ·subst hkL
    obtain ⟨_,oj,hoj,hall⟩:=mem_ready.1 hr
    rw [ho] at hoj
    injection hoj with hoj
    rw [hoj] at he
    exact hall e he hb
   ·exact hc k _ ho (last_all hs hc hr n k (by omega) hkl hkL) e he hb
end
end Go.Proofs.YtdmacgoeikjdbaaGreatDoor
namespace Go.Proofs.YtdmacgoeikjdbaaGreatDoor
open Go.RowKit
section
variable {P:Program} {ops:Array Oper} {Q:Exit→Act→World→Prop} {md:Region.Mode} {S:World→Prop} {last:Nat}
def AnyK (P:Program) (md:Region.Mode) (ops:Array Oper) (Q:Exit→Act→World→Prop):Nat→(World→Prop)→Nat→Array Bool→Act→World→Prop
 | 0,_,_,listed,a,w=>Region.ready md ops listed=[]∧Q .normal a w
 | fuel + 1,S,last,listed,a,w=>
  (Region.ready md ops listed=[]→Q .normal a w) ∧
  ∀ i ∈ Region.ready md ops listed,wpOp P ops Q i (fun a' w'=>(i ≠ last→S w'∧AnyK P md ops Q fuel S last (listed.setIfInBounds i true) a' w')∧(i=last→∃ S' last',AnyK P md ops Q fuel S' last' (listed.setIfInBounds i true) a' w')) a w
theorem anyK_any:∀ (fuel:Nat) (S:World→Prop) (last:Nat) (listed:Array Bool) (a:Act) (w:World),AnyK P md ops Q fuel S last listed a w→wpAny P md ops Q fuel listed a w
 | 0,_,_,_,_,_,h=>h
 | fuel + 1,S,last,listed,a,w,h=>⟨h.1,fun i hi=>wpOp_mono (fun a' w' h'=>by
  by_cases hl:i=last
  ·obtain ⟨S',last',h2⟩:=h'.2 hl
   exact anyK_any fuel S' last' _ a' w' h2
  ·exact anyK_any fuel S last _ a' w' (h'.1 hl).2) (h.2 i hi)⟩
theorem anyK_first {i:Nat} (Inv:Array Bool→Prop) (hInv:∀ listed j,Inv listed→j ∈ Region.ready md ops listed→Inv (listed.setIfInBounds j true)) (hlast:∀ listed,Inv listed→i ∈ Region.ready md ops listed→last ∈ Region.ready md ops listed→i=last) {oi:Oper} {v:Value} (hi:ops[i]?=some oi) (_hne:i ≠ last) (hsel:∀ (j:Nat) (o:Oper) cs b,ops[j]?=some o→o.op ≠ .select cs b)
  (hQ:∀ c a w,Q (.panic c) (a.put oi.dst v) w→Q (.panic c) a w) :
  ∀ (fuel:Nat) (listed:Array Bool) (a:Act) (w:World),Inv listed →
   (∀ j oj,ops[j]?=some oj→j ≠ i→listed.getD j true=false→(∀ e ∈ oj.after,Region.binds md e=true→e.on ≠ i)→oi.apart ops oj=true) →
   i ∈ Region.ready md ops listed→YieldsIf P ops S oi v a→S w →
   AnyK P md ops Q fuel S last (listed.setIfInBounds i true) (a.put oi.dst v) w→AnyK P md ops Q (fuel + 1) S last listed a w:=by
 intro fuel
 have hno:∀ (listed:Array Bool) (j:Nat),Inv listed→i ∈ Region.ready md ops listed→j ∈ Region.ready md ops listed→j ≠ i→(∀ oj,ops[j]?=some oj→∀ e ∈ oj.after,Region.binds md e=true→e.on ≠ i)∧j ≠ last:=by
  intro listed j hv hri hrj hji
  obtain ⟨_,oj,hoj,hall⟩:=mem_ready.1 hrj
  have h0:=(mem_ready.1 hri).1
  refine ⟨fun o ho e he hb heq=>?_,fun hjl=>?_⟩
  ·rw [hoj] at ho
   injection ho with ho
   subst ho
   have h1:=hall e he hb
   rw [heq] at h1
   rcases Nat.lt_or_ge i listed.size with h' | h'
   ·simp [h'] at h0 h1;rw [h0] at h1;cases h1
   ·simp [Array.getElem?_eq_none h'] at h1
  ·subst hjl
   exact hji (hlast listed hv hri hrj).symm
 induction fuel with
 | zero=>
  intro listed a w _ _ hr hy hS H
  refine ⟨fun h=>(by rw [h] at hr;cases hr),fun j hj=>?_⟩
  by_cases hji:j=i
  ·subst hji;exact hy.wpOp hi hS ⟨fun _=>⟨hS,H⟩,fun e=>absurd e _hne⟩
  ·have:=ready_mono hj hji
   rw [H.1] at this
   cases this
 | succ fuel ih=>
  intro listed a w hv hfree hr hy hS H
  refine ⟨fun h=>(by rw [h] at hr;cases hr),fun j hj=>?_⟩
  by_cases hji:j=i
  ·subst hji;exact hy.wpOp hi hS ⟨fun _=>⟨hS,H⟩,fun e=>absurd e _hne⟩
  ·have h1:=H.2 j (ready_mono hj hji)
   obtain ⟨hjun,oj,hoj,_⟩:=mem_ready.1 hj
   obtain ⟨hnot,hjl⟩:=hno listed j hv hr hj hji
   have h2:=wpOp_putIf hoj (hfree j oj hoj hji hjun (hnot oj hoj)) (fun cs b=>hsel i oi cs b hi) (fun cs b=>hsel j oj cs b hoj) hQ hy h1
   have hfree':∀ k ok,ops[k]?=some ok→k ≠ i→(listed.setIfInBounds j true).getD k true=false →
     (∀ e ∈ ok.after,Region.binds md e=true→e.on ≠ i)→oi.apart ops ok=true:=fun k ok hk hki hun hn=>by
    refine hfree k ok hk hki ?_ hn
    by_cases hjk:j=k
    ·subst hjk;exact hjun
    ·rw [getD_set_ne true hjk] at hun;exact hun
   refine wpOp_mono (fun a' w' h3=>⟨fun _=>⟨(h3.2.1 hjl).1,ih (listed.setIfInBounds j true) a' w' (hInv _ _ hv hj) hfree' (ready_mono hr (Ne.symm hji)) h3.1 (h3.2.1 hjl).1 ?_⟩,fun e=>absurd e hjl⟩) h2
   rw [Array.setIfInBounds_comm _ _ hji]
   exact (h3.2.1 hjl).2
theorem anyK_begin {id:Nat} {a:Act} {w:World} (last:Nat) (S:World→Prop) (hm:P.follows .mixedOrders=true)
  (h:AnyK P .any ops Q ops.size S last (Array.replicate ops.size false) a w.drew):(Code.region id ops true).wp P Q a w:=
 wp_region_any hm (anyK_any _ _ _ _ _ _ h)
theorem anyK_done {listed:Array Bool} {a:Act} {w:World} (hr:Region.ready md ops listed=[]) (h:Q .normal a w):∀ fuel,AnyK P md ops Q fuel S last listed a w
 | 0=>⟨hr,h⟩
 | _ + 1=>⟨fun _=>h,by rw [hr];simp⟩
def takeOkK (md:Region.Mode) (ops:Array Oper) (listed:Array Bool) (last i:Nat):Bool:=(WaitsI md ops last i || (SuccB md ops last && closedB md ops listed)) && (!(i == last) && (Region.noSelect ops && (Region.free md ops listed i && (Region.ready md ops listed).contains i)))
theorem takeK {i:Nat} {oi:Oper} {v:Value} {fuel:Nat} {listed:Array Bool} {a:Act} {w:World} (hk:takeOkK md ops listed last i=true) (hi:ops[i]?=some oi)
  (hQ:∀ c a w,Q (.panic c) (a.put oi.dst v) w→Q (.panic c) a w) (hS:S w) (hy:YieldsIf P ops S oi v a)
  (h:AnyK P md ops Q fuel S last (listed.setIfInBounds i true) (a.put oi.dst v) w):AnyK P md ops Q (fuel + 1) S last listed a w:=by
 unfold takeOkK at hk
 simp only [Bool.and_eq_true,Bool.not_eq_true',Bool.or_eq_true] at hk
 obtain ⟨h1,h2,h3,h4,h5⟩:=hk
 have h2:i ≠ last:=by simpa using h2
 have hil:i<ops.size:=(Array.getElem?_eq_some_iff.1 hi).1
 rcases h1 with h1 | ⟨h1,h6⟩
 ·refine anyK_first (fun _=>True) (fun _ _ _ _=>trivial) (fun listed _ hri hrl=>?_) hi h2 (Region.noSelect_spec h3) hQ fuel listed a w trivial (Region.free_spec hi h4) (by simpa using h5) hy hS h
  exfalso
  obtain ⟨o,ho,e,he,hb,hon⟩:=waitsI_spec h1
  obtain ⟨_,oj,hoj,hall⟩:=mem_ready.1 hrl
  rw [ho] at hoj
  injection hoj with hoj
  subst hoj
  have h7:=hall e he hb
  rw [hon] at h7
  have h0:=(mem_ready.1 hri).1
  rcases Nat.lt_or_ge i listed.size with h' | h'
  ·simp [h'] at h0 h7;rw [h0] at h7;cases h7
  ·simp [Array.getElem?_eq_none h'] at h7
 ·refine anyK_first (Closed md ops) (fun _ _ hc hj=>hc.list hj) (fun listed hc hri hrl=>?_) hi h2 (Region.noSelect_spec h3) hQ fuel listed a w (closedB_spec h6) (Region.free_spec hi h4) (by simpa using h5) hy hS h
  exfalso
  have h7:=last_all h1 hc hrl ops.size i (by omega) hil h2
  have h0:=(mem_ready.1 hri).1
  rcases Nat.lt_or_ge i listed.size with h' | h'
  ·simp [h'] at h0 h7;rw [h0] at h7;cases h7
  ·simp [Array.getElem?_eq_none h'] at h7
theorem anyK_pureB {i:Nat} {oi:Oper} {v:Value} (hi:ops[i]?=some oi) (hsel:∀ (j:Nat) (o:Oper) cs b,ops[j]?=some o→o.op ≠ .select cs b) (hQ:∀ c a w,Q (.panic c) (a.put oi.dst v) w→Q (.panic c) a w) :
  ∀ (fuel:Nat) (S:World→Prop) (last:Nat) (listed:Array Bool) (a:Act) (w:World),
   (∀ j oj,ops[j]?=some oj→j ≠ i→listed.getD j true=false→(∀ e ∈ oj.after,Region.binds md e=true→e.on ≠ i)→oi.apart ops oj=true) →
   i ∈ Region.ready md ops listed→YieldsIf P ops (fun _=>True) oi v a →
   AnyK P md ops Q fuel S last (listed.setIfInBounds i true) (a.put oi.dst v) w→AnyK P md ops Q (fuel + 1) (fun _=>True) i listed a w:=by
 intro fuel
 induction fuel with
 | zero=>
  intro S last listed a w _ hr hy H
  refine ⟨fun h=>(by rw [h] at hr;cases hr),fun j hj=>?_⟩
  by_cases hji:j=i
  ·subst hji;exact hy.wpOp hi trivial ⟨fun e=>absurd rfl e,fun _=>⟨S,last,H⟩⟩
  ·have:=ready_mono hj hji
   rw [H.1] at this
   cases this
 | succ fuel ih=>
  intro S last listed a w hfree hr hy H
  refine ⟨fun h=>(by rw [h] at hr;cases hr),fun j hj=>?_⟩
  by_cases hji:j=i
  ·subst hji;exact hy.wpOp hi trivial ⟨fun e=>absurd rfl e,fun _=>⟨S,last,H⟩⟩
  ·have h1:=H.2 j (ready_mono hj hji)
   obtain ⟨hjun,oj,hoj,hall⟩:=mem_ready.1 hj
   have hnot:∀ e ∈ oj.after,Region.binds md e=true→e.on ≠ i:=fun e he hb heq=>by
    have h1:=hall e he hb
    have h0:=(mem_ready.1 hr).1
    rw [heq] at h1
    rcases Nat.lt_or_ge i listed.size with h' | h'
    ·simp [h'] at h0 h1;rw [h0] at h1;cases h1
    ·simp [Array.getElem?_eq_none h'] at h1
   have h2:=wpOp_putIf hoj (hfree j oj hoj hji hjun hnot) (fun cs b=>hsel i oi cs b hi) (fun cs b=>hsel j oj cs b hoj) hQ hy h1
   have hfree':∀ k ok,ops[k]?=some ok→k ≠ i→(listed.setIfInBounds j true).getD k true=false →
     (∀ e ∈ ok.after,Region.binds md e=true→e.on ≠ i)→oi.apart ops ok=true:=fun k ok hk hki hun hn=>by
    refine hfree k ok hk hki ?_ hn
    by_cases hjk:j=k
    ·subst hjk;exact hjun
    ·rw [getD_set_ne true hjk] at hun;exact hun
   refine wpOp_mono (fun a' w' h3=>⟨fun _=>⟨trivial,?_⟩,fun e=>absurd e hji⟩) h2
   obtain ⟨h3,h4⟩:=h3
   have hc:(listed.setIfInBounds j true).setIfInBounds i true=(listed.setIfInBounds i true).setIfInBounds j true:=Array.setIfInBounds_comm _ _ hji
   by_cases hl:j=last
   ·obtain ⟨S',last',h5⟩:=h4.2 hl
    exact ih S' last' (listed.setIfInBounds j true) a' w' hfree' (ready_mono hr (Ne.symm hji)) h3 (by rw [hc];exact h5)
   ·exact ih S last (listed.setIfInBounds j true) a' w' hfree' (ready_mono hr (Ne.symm hji)) h3 (by rw [hc];exact (h4.1 hl).2)
theorem anyK_pureA {i:Nat} {oi:Oper} {v:Value} (hi:ops[i]?=some oi) (hne:i ≠ last) (hsel:∀ (j:Nat) (o:Oper) cs b,ops[j]?=some o→o.op ≠ .select cs b) (hQ:∀ c a w,Q (.panic c) (a.put oi.dst v) w→Q (.panic c) a w) :
  ∀ (fuel:Nat) (listed:Array Bool) (a:Act) (w:World),
   (∀ j oj,ops[j]?=some oj→j ≠ i→listed.getD j true=false→(∀ e ∈ oj.after,Region.binds md e=true→e.on ≠ i)→oi.apart ops oj=true) →
   i ∈ Region.ready md ops listed→YieldsIf P ops (fun _=>True) oi v a→S w →
   AnyK P md ops Q fuel S last (listed.setIfInBounds i true) (a.put oi.dst v) w→AnyK P md ops Q (fuel + 1) S last listed a w:=by
 intro fuel
 induction fuel with
 | zero=>
  intro listed a w _ hr hy hS H
  refine ⟨fun h=>(by rw [h] at hr;cases hr),fun j hj=>?_⟩
  by_cases hji:j=i
  ·subst hji;exact hy.wpOp hi trivial ⟨fun _=>⟨hS,H⟩,fun e=>absurd e hne⟩
  ·have:=ready_mono hj hji
   rw [H.1] at this
   cases this
 | succ fuel ih=>
  intro listed a w hfree hr hy hS H
  refine ⟨fun h=>(by rw [h] at hr;cases hr),fun j hj=>?_⟩
  by_cases hji:j=i
  ·subst hji;exact hy.wpOp hi trivial ⟨fun _=>⟨hS,H⟩,fun e=>absurd e hne⟩
  ·have h1:=H.2 j (ready_mono hj hji)
   obtain ⟨hjun,oj,hoj,hall⟩:=mem_ready.1 hj
   have hnot:∀ e ∈ oj.after,Region.binds md e=true→e.on ≠ i:=fun e he hb heq=>by
    have h1:=hall e he hb
    have h0:=(mem_ready.1 hr).1
    rw [heq] at h1
    rcases Nat.lt_or_ge i listed.size with h' | h'
    ·simp [h'] at h0 h1;rw [h0] at h1;cases h1
    ·simp [Array.getElem?_eq_none h'] at h1
   have h2:=wpOp_putIf hoj (hfree j oj hoj hji hjun hnot) (fun cs b=>hsel i oi cs b hi) (fun cs b=>hsel j oj cs b hoj) hQ hy h1
   have hfree':∀ k ok,ops[k]?=some ok→k ≠ i→(listed.setIfInBounds j true).getD k true=false →
     (∀ e ∈ ok.after,Region.binds md e=true→e.on ≠ i)→oi.apart ops ok=true:=fun k ok hk hki hun hn=>by
    refine hfree k ok hk hki ?_ hn
    by_cases hjk:j=k
    ·subst hjk;exact hjun
    ·rw [getD_set_ne true hjk] at hun;exact hun
   have hc:(listed.setIfInBounds j true).setIfInBounds i true=(listed.setIfInBounds i true).setIfInBounds j true:=Array.setIfInBounds_comm _ _ hji
   refine wpOp_mono (fun a' w' h3=>⟨fun hl=>⟨(h3.2.1 hl).1,?_⟩,fun hl=>?_⟩) h2
   ·exact ih (listed.setIfInBounds j true) a' w' hfree' (ready_mono hr (Ne.symm hji)) h3.1 (h3.2.1 hl).1 (by rw [hc];exact (h3.2.1 hl).2)
   ·obtain ⟨S',last',h5⟩:=h3.2.2 hl
    exact ⟨_,_,anyK_pureB hi hsel hQ fuel S' last' (listed.setIfInBounds j true) a' w' hfree' (ready_mono hr (Ne.symm hji)) h3.1 (by rw [hc];exact h5)⟩
def takeOkP (md:Region.Mode) (ops:Array Oper) (listed:Array Bool) (last i:Nat):Bool:=!(Nat.beq i last) && (Region.noSelect ops && (Region.free md ops listed i && (Region.ready md ops listed).contains i))
theorem takeP {i:Nat} {oi:Oper} {v:Value} {fuel:Nat} {listed:Array Bool} {a:Act} {w:World} (hk:takeOkP md ops listed last i=true) (hi:ops[i]?=some oi)
  (hQ:∀ c a w,Q (.panic c) (a.put oi.dst v) w→Q (.panic c) a w) (hS:S w) (hy:YieldsIf P ops (fun _=>True) oi v a)
  (h:AnyK P md ops Q fuel S last (listed.setIfInBounds i true) (a.put oi.dst v) w):AnyK P md ops Q (fuel + 1) S last listed a w:=by
 unfold takeOkP at hk
 simp only [Bool.and_eq_true,Bool.not_eq_true'] at hk
 obtain ⟨h2,h3,h4,h5⟩:=hk
 exact anyK_pureA hi (Nat.ne_of_beq_eq_false h2) (Region.noSelect_spec h3) hQ fuel listed a w (Region.free_spec hi h4) (by simpa using h5) hy hS h
end
end Go.Proofs.YtdmacgoeikjdbaaGreatDoor

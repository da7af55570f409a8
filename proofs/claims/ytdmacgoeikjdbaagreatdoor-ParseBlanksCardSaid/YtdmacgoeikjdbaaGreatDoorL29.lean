/- The program's parser: "if" with "else". The program's parser: what "el -/
import Derived.Test.YtdmacgoeikjdbaaGreatDoorL28
import Derived.Maps.AppendAt
set_option linter.unusedSimpArgs false
set_option linter.unusedVariables false
set_option maxHeartbeats 8000000
namespace Go.Proofs.YtdmacgoeikjdbaaGreatDoor
open Go.RowKit Sx
theorem act_size (a:Act) (d:Option Tmp) (v:Value):(a.put d v).tmps.size=a.tmps.size:=by cases d <;> simp [Act.put]
theorem act_defers (a:Act) (d:Option Tmp) (v:Value):(a.put d v).defers=a.defers:=by cases d <;> rfl
theorem act_eval {a:Act} {t u:Nat} {v:Value} (h:t<a.tmps.size):(a.put (some t) v).eval (.tmp u)=if u=t then v else a.eval (.tmp u):=by
 by_cases e:u=t
 ·subst e
  simp [Act.put,Act.eval,h]
 ·rw [if_neg e]
  simp [Act.put,Act.eval,Array.getElem?_setIfInBounds,Ne.symm e]
theorem wp_append_at {P:Program} {o:Oper} {a:Act} {w:World} {K:Act→World→Prop} {Q:Exit→Act→World→Prop} (s x:Operand) (T e:TypeId) (z:Nat) (zero:Value)
  (ho:o.op=.call { callee:=.builtin .append,args:=#[s,x],argTypes:=#[T,T] })
  (hT:P.underlying T=some (.slice e)) (hi:(P.info? e).map (fun i=>(i.zero,i.size,decide (i.bytes≤1000)))=some (some zero,z,true)) (hzs:zero.cells.size=z) (hsz:0<z)
  (B:Nat) (ok:Nat→Prop) (v:Value) (ds:List D) (hs:a.eval s=v) (g:Nat) (hx:a.eval x=.slice (some ⟨g,0,none⟩) 1 1)
  (hown:Own w B ok e z v ds) (cs:List Value) (d:D) (hnew:BlkIs w g e cs.toArray) (hl:cs.length=z) (h1:∀ u ∈ cs,u.oneCell'=true)
  (hd:Rep w (fun k=>ok k∧some k ≠ v.ownBlock) d cs) (hlen:ds.length≤1000000000) (hB:B≤w.heap.size)
  (h:∀ v' w',Own w' B ok e z v' (ds ++ [d])→w.heap.size≤w'.heap.size→Below B w w'→(∀ k,some k ≠ v.ownBlock→k<w.heap.size→w'.heap[k]?=w.heap[k]?)→(v'.ownBlock=v.ownBlock ∨ v'.ownBlock=some w.heap.size)→K (a.put o.dst v') w') :
  Oper.wp P o a w K Q:=by
 obtain ⟨i0,hi0,hz0,hz1,hb⟩:∃ i0,P.info? e=some i0∧i0.zero=some zero∧i0.size=z∧i0.bytes≤1000:=by
  cases hq:P.info? e with
  | none=>rw [hq] at hi;cases hi
  | some i=>
   rw [hq] at hi
   injection hi with hi
   injection hi with h1 h2
   injection h2 with h2 h3
   exact ⟨i,rfl,h1,h2,by simpa using h3⟩
 obtain ⟨xs,hrow,hcells⟩:=hown
 have hmul:(ds.length + 1) * i0.bytes≤140737488355328:=by
  have:=Nat.mul_le_mul (show ds.length + 1≤1000000001 by omega) hb
  omega
 obtain ⟨v',w',hrun,h2,h3,_,h5⟩:=run_append_own_at (P:=P) w B T o.type e i0 zero z i0.bytes hT hi0 hz0 hz1 rfl hzs hsz v ds.length xs hrow ⟨g,0,none⟩ 1 1 cs (by rw [hl];omega) (hnew.cells (by simp)) h1 (by unfold maxLen;omega) hmul hB
 unfold Oper.wp execOp
 simp only [ho,resolve,invoke,builtin,Sem.run_bind,Sem.run_pure,Result.andThen_ok,List.map_toArray,List.map_cons,List.map_nil,hs,hx,hrun]
 have hkeep:∀ k,some k ≠ v.ownBlock→k<w.heap.size→w'.heap[k]?=w.heap[k]?:=fun k hk hlt=>h3.block k hlt hk
 have hok:∀ k,ok k∧some k ≠ v.ownBlock→k<w.heap.size→ok k∧some k ≠ v'.ownBlock:=by
  intro k hk hlt
  refine ⟨hk.1,?_⟩
  rcases h5 with h5 | h5
  ·rw [h5];exact hk.2
  ·rw [h5];intro e;injection e with e;omega
 have hsz2:w.heap.size≤w'.heap.size:=((Below.refl B w).grown h3 hB (own_block_ge hrow)).size
 exact h v' w' ⟨xs ++ cs,by rw [List.length_append];exact h2,Cells.snoc hl (Rep.keep hok (fun k hk=>hkeep k hk.2) d cs hd) (Cells.keep hok (fun k hk=>hkeep k hk.2) hcells)⟩ hsz2 ((Below.refl _ _).grown h3 hB (own_block_ge hrow)) hkeep h5
section
variable {P:Program} {ops:Array Oper} {Q:Exit→Act→World→Prop} {md:Region.Mode} {S:World→Prop} {last:Nat}
theorem oneK {i:Nat} {o:Oper} {d:Option Tmp} {fuel:Nat} {listed:Array Bool} {a:Act} {w:World} (hr:Region.ready md ops listed=[i]) (ho:ops[i]?=some o) (hd:o.dst=d) (hwt:Region.wanted o (yielded ops a.tmps)=true) (hne:Nat.beq i last=false)
  (h:∀ K':Act→World→Prop,Hid (∀ v w,S w→AnyK P md ops Q fuel S last (listed.setIfInBounds i true) (a.put d v) w→K' (a.put o.dst v) w)→Oper.wp P o a w K' Q):AnyK P md ops Q (fuel + 1) S last listed a w:=by
 subst hd
 refine ⟨fun h0=>absurd (hr ▸ h0) (by simp),fun j hj=>?_⟩
 rw [hr] at hj
 obtain rfl:j=i:=by simpa using hj
 exact wpOp_step ho (fun K' hK=>by rw [if_pos hwt];exact h K' (Lib.hid (fun v w hS hW=>hK _ w ⟨fun _=>⟨hS,hW⟩,fun e=>absurd e (Nat.ne_of_beq_eq_false hne)⟩)))
theorem oneKL {i:Nat} {o:Oper} {d:Option Tmp} {fuel:Nat} {listed:Array Bool} {a:Act} {w:World} (S':World→Prop) (last':Nat) (hr:Region.ready md ops listed=[i]) (ho:ops[i]?=some o) (hd:o.dst=d) (hwt:Region.wanted o (yielded ops a.tmps)=true) (hl:i=last)
  (h:∀ K':Act→World→Prop,Hid (∀ v w,AnyK P md ops Q fuel S' last' (listed.setIfInBounds i true) (a.put d v) w→K' (a.put o.dst v) w)→Oper.wp P o a w K' Q):AnyK P md ops Q (fuel + 1) S last listed a w:=by
 subst hd
 refine ⟨fun h0=>absurd (hr ▸ h0) (by simp),fun j hj=>?_⟩
 rw [hr] at hj
 obtain rfl:j=i:=by simpa using hj
 exact wpOp_step ho (fun K' hK=>by rw [if_pos hwt];exact h K' (Lib.hid (fun v w hW=>hK _ w ⟨fun e=>absurd hl e,fun _=>⟨S',last',hW⟩⟩)))
theorem twoK {i j:Nat} {o p:Oper} {d d2:Option Tmp} {fuel:Nat} {listed:Array Bool} {a:Act} {w:World} (hr:Region.ready md ops listed=[i,j]) (ho:ops[i]?=some o) (hp:ops[j]?=some p) (hd:o.dst=d) (hd2:p.dst=d2)
  (hwt:Region.wanted o (yielded ops a.tmps)=true) (hwt2:Region.wanted p (yielded ops a.tmps)=true) (hne:Nat.beq i last=false) (hne2:Nat.beq j last=false)
  (h:∀ K':Act→World→Prop,Hid (∀ v w,S w→AnyK P md ops Q fuel S last (listed.setIfInBounds i true) (a.put d v) w→K' (a.put o.dst v) w)→Oper.wp P o a w K' Q)
  (h2:∀ K':Act→World→Prop,Hid (∀ v w,S w→AnyK P md ops Q fuel S last (listed.setIfInBounds j true) (a.put d2 v) w→K' (a.put p.dst v) w)→Oper.wp P p a w K' Q):AnyK P md ops Q (fuel + 1) S last listed a w:=by
 subst hd hd2
 refine ⟨fun h0=>absurd (hr ▸ h0) (by simp),fun k hk=>?_⟩
 rw [hr] at hk
 have hk:k=i ∨ k=j:=by simpa using hk
 rcases hk with rfl | rfl
 ·exact wpOp_step ho (fun K' hK=>by rw [if_pos hwt];exact h K' (Lib.hid (fun v w hS hW=>hK _ w ⟨fun _=>⟨hS,hW⟩,fun e=>absurd e (Nat.ne_of_beq_eq_false hne)⟩)))
 ·exact wpOp_step hp (fun K' hK=>by rw [if_pos hwt2];exact h2 K' (Lib.hid (fun v w hS hW=>hK _ w ⟨fun _=>⟨hS,hW⟩,fun e=>absurd e (Nat.ne_of_beq_eq_false hne2)⟩)))
theorem wp_store_at {o:Oper} {a:Act} {w:World} {K:Act→World→Prop} {t:TypeId} {x y:Operand} (ho:o.op=.store t x y) {g off:Nat} (hx:a.eval x=.pointer (some ⟨g,off,none⟩)) (cs:List Value) (hy:(a.eval y).cells.toList=cs) {ty:TypeId} {cur:Array Value} (hb:w.heap[g]?=some (.cells cur ty (0,0)))
  (hi:(P.info? t).map (·.size)=some cs.length) (hfit:off + cs.length≤cur.size) (h1:∀ u ∈ cs,u.oneCell'=true) (h:K (a.put o.dst undef) (w.setRow g (cur.toList.take off ++ cs ++ cur.toList.drop (off + cs.length)).toArray)):o.wp P a w K Q:=by
 subst hy
 obtain ⟨i,hi,hs⟩:∃ i,P.info? t=some i∧i.size=(a.eval y).cells.toList.length:=by
  cases hq:P.info? t with
  | none=>rw [hq] at hi;cases hi
  | some i=>rw [hq] at hi;injection hi with hi;exact ⟨i,rfl,hi⟩
 have hst:=run_storeCells_at P g off ty (a.eval y).cells.toList 0 cur w hb (by omega) h1
 simp only [Nat.add_zero] at hst
 have hsz:(a.eval y).cells.size=i.size:=by rw [hs];simp
 refine wp_skip ?_ h
 unfold execOp
 rw [ho]
 simp [hx,Instr.storeAt,Instr.sureAddr,storeVar,sizeOf,typeInfo,hi,hsz,hst]
end
theorem two_stores {P:Program} {ops:Array Oper} {Q:Exit→Act→World→Prop} {fuel:Nat} {listed:Array Bool} {a:Act} {w5:World} {i j:Nat} {o1 o2:Oper} {t1 t2:TypeId} {x1 y1 x2 y2:Operand} {g1 g2 f1 f2:Nat} {c1 c2:List Value} {u1 u2:Array Value} {ty1 ty2:TypeId}
  (hr:Region.ready .any ops listed=[i,j]) (hr1:Region.ready .any ops (listed.setIfInBounds i true)=[j]) (hr2:Region.ready .any ops (listed.setIfInBounds j true)=[i]) (hr3:Region.ready .any ops ((listed.setIfInBounds i true).setIfInBounds j true)=[]) (hr4:Region.ready .any ops ((listed.setIfInBounds j true).setIfInBounds i true)=[])
  (hi9:Nat.beq i 99=false) (hj9:Nat.beq j 99=false) (h1:ops[i]?=some o1) (h2:ops[j]?=some o2) (ho1:o1.op=.store t1 x1 y1) (ho2:o2.op=.store t2 x2 y2) (hd1:o1.dst=none) (hd2:o2.dst=none) (hg1:o1.guard=none) (hg2:o2.guard=none)
  (hx1:a.eval x1=.pointer (some ⟨g1,f1,none⟩)) (hx2:a.eval x2=.pointer (some ⟨g2,f2,none⟩)) (hy1:(a.eval y1).cells.toList=c1) (hy2:(a.eval y2).cells.toList=c2) (hne:g1 ≠ g2)
  (hb1:w5.heap[g1]?=some (.cells u1 ty1 (0,0))) (hb2:w5.heap[g2]?=some (.cells u2 ty2 (0,0))) (hi1:(P.info? t1).map (·.size)=some c1.length) (hi2:(P.info? t2).map (·.size)=some c2.length) (hf1:f1 + c1.length≤u1.size) (hf2:f2 + c2.length≤u2.size)
  (ho1c:∀ u ∈ c1,u.oneCell'=true) (ho2c:∀ u ∈ c2,u.oneCell'=true)
  (hfin:∀ W a',a'.defers=a.defers→KeepX (fun k=>k=g1 ∨ k=g2) w5 W→W.heap.size=w5.heap.size→W.heap[g1]?=some (.cells (u1.toList.take f1 ++ c1 ++ u1.toList.drop (f1 + c1.length)).toArray ty1 (0,0))→W.heap[g2]?=some (.cells (u2.toList.take f2 ++ c2 ++ u2.toList.drop (f2 + c2.length)).toArray ty2 (0,0))→Q .normal a' W) :
  AnyK P .any ops Q (fuel + 1 + 1) (fun _=>True) 99 listed a w5:=by
 have w1:∀ a:Act,Region.wanted o1 (yielded ops a.tmps)=true:=fun a=>by simp [Region.wanted,hg1]
 have w2:∀ a:Act,Region.wanted o2 (yielded ops a.tmps)=true:=fun a=>by simp [Region.wanted,hg2]
 refine twoK hr h1 h2 hd1 hd2 (w1 _) (w2 _) hi9 hj9 (fun K' hK=>?_) (fun K' hK=>?_)
 ·refine wp_store_at ho1 hx1 c1 hy1 hb1 hi1 hf1 ho1c (hK.out _ _ trivial ?_)
  refine oneK hr1 h2 hd2 (w2 _) hj9 (fun K' hK=>?_)
  have hb2':=(setRow_other w5 g1 g2 (u1.toList.take f1 ++ c1 ++ u1.toList.drop (f1 + c1.length)).toArray (Ne.symm hne)).trans hb2
  refine wp_store_at ho2 hx2 c2 hy2 hb2' hi2 hf2 ho2c (hK.out _ _ trivial ?_)
  refine anyK_done hr3 (hfin _ _ rfl (((KeepX.refl _ w5).setRow (.inl (.inl rfl)) _).setRow (.inl (.inr rfl)) _) (by simp) ?_ (setRow_heap _ _ _ _ _ _ hb2')) _
  rw [setRow_other _ _ _ _ hne]
  exact setRow_heap _ _ _ _ _ _ hb1
 ·refine wp_store_at ho2 hx2 c2 hy2 hb2 hi2 hf2 ho2c (hK.out _ _ trivial ?_)
  refine oneK hr2 h1 hd1 (w1 _) hi9 (fun K' hK=>?_)
  have hb1':=(setRow_other w5 g2 g1 (u2.toList.take f2 ++ c2 ++ u2.toList.drop (f2 + c2.length)).toArray hne).trans hb1
  refine wp_store_at ho1 hx1 c1 hy1 hb1' hi1 hf1 ho1c (hK.out _ _ trivial ?_)
  refine anyK_done hr4 (hfin _ _ rfl (((KeepX.refl _ w5).setRow (.inl (.inr rfl)) _).setRow (.inl (.inl rfl)) _) (by simp) (setRow_heap _ _ _ _ _ _ hb1') ?_) _
  rw [setRow_other _ _ _ _ (Ne.symm hne)]
  exact setRow_heap _ _ _ _ _ _ hb2
theorem own_keep2 {w w':World} {ok:Nat→Prop} {e:TypeId} {z:Nat} {v:Value} {ds:List D} (h:Own w 0 ok e z v ds) (hk:∀ k,k<w.heap.size→(ok k ∨ v.ownBlock=some k)→w'.heap[k]?=w.heap[k]?):Own w' 0 ok e z v ds:=by
 obtain ⟨xs,h1,h2⟩:=h
 refine ⟨xs,⟨h1.1,?_⟩,Cells.keep (fun _ h _=>h) (fun k hk2 hl=>hk k hl (.inl hk2.1)) h2⟩
 rcases h1.2 with h3 | ⟨gg,cap,cur,hv,hb,hh,hr⟩
 ·exact .inl h3
 ·have hl:gg<w.heap.size:=by
   rcases Nat.lt_or_ge gg w.heap.size with h | h
   ·exact h
   ·rw [Array.getElem?_eq_none h] at hh;cases hh
  exact .inr ⟨gg,cap,cur,hv,hb,(hk gg hl (.inr (by rw [hv];rfl))).trans hh,hr⟩
theorem stmt_info:(Tryz.prog.info? 89).map (fun i=>(i.zero,i.size,decide (i.bytes≤1000)))=some (some (.agg #[.int .i64 0,.slice none 0 0,.slice none 0 0,.int .i64 0,.int .i64 0,.int .i64 0,.string ⟨#[]⟩,.int .i64 0,.int .i64 0]),9,true):=by kernel_rfl
theorem zst_rep {w:World} {ok:Nat→Prop}:Rep w ok (encSt (.mk 0 [] [] noTy [] 0 0)) [.int .i64 0,.slice none 0 0,.slice none 0 0,.int .i64 0,.int .i64 0,.int .i64 0,.string ⟨#[]⟩,.int .i64 0,.int .i64 0]:=
 rep_st.2 ⟨none,0,none,0,rfl,rep_none,rep_none⟩
theorem own2_form {w:World} {ok:Nat→Prop} {e:TypeId} {v:Value} {d1 d2:D} (h:Own w 0 ok e 9 v [d1,d2]):∃ (gn cp:Nat) (cur:Array Value) (r:List Value),v=.slice (some ⟨gn,0,none⟩) 2 cp∧w.heap[gn]?=some (.cells cur e (0,0))∧2≤cp∧cp≤maxLen∧cur.size=cp * 9 ∧
  ((cur.toList.take 9).length=9∧Rep w (fun k=>ok k∧k ≠ gn) d1 (cur.toList.take 9)):=by
 obtain ⟨xs,hrow,hc⟩:=h
 rcases hrow.2 with ⟨_,hn⟩ | ⟨gn,cp,cur,hv,_,hh,h2,hm,hs,ht⟩
 ·cases hn
 ·subst hv
  have h2:2≤cp:=h2
  refine ⟨gn,cp,cur,[],rfl,hh,h2,hm,hs,?_⟩
  obtain ⟨a,b,hab,hl,h3,_⟩:=hc
  have hta:cur.toList.take 9=a:=by
   have ht2:cur.toList.take 18=a ++ b:=by rw [← hab,← ht];rfl
   have e1:cur.toList.take 9=(cur.toList.take 18).take 9:=by rw [List.take_take];rfl
   rw [e1,ht2,List.take_append_of_le_length (by omega),List.take_of_length_le (by omega)]
  rw [hta]
  exact ⟨hl,Rep.imp h3 fun k hk _=>⟨hk.1,fun e=>hk.2 (by rw [e];rfl)⟩⟩
theorem rep2_after {w:World} {ok:Nat→Prop} {e:TypeId} {gn cp:Nat} {d1 d3:D} {a cs r:List Value} (hb:w.heap[gn]?=some (.cells (a ++ cs ++ r).toArray e (0,0))) (ha:a.length=9) (hc:cs.length=9) (h1:Rep w ok d1 a) (h3:Rep w ok d3 cs) (hg:ok gn) (h2:2≤cp) (hm:cp≤maxLen) :
  Rep w ok (.lst 9 [d1,d3]) [.slice (some ⟨gn,0,none⟩) 2 cp]:=by
 unfold Rep
 refine ⟨some ⟨gn,0,none⟩,cp,rfl,h2,hm,fun _=>⟨gn,0,_,e,thawed,rfl,hg,hb,?_⟩⟩
 rw [List.drop_zero]
 exact Cells.row r (ds:=[d1,d3]) ⟨a,cs,rfl,ha,h1,cs,[],by simp,hc,h3,rfl⟩
def StRet (x:St) (g:Nat) (s':RS) (w:World) (e:Ending) (w':World):Prop:=∃ A c B d h,e=.returned (.agg (stC x A c B d).toArray)∧Rep w' (fun k=>w.heap.size≤k) (encSt x) (stC x A c B d)∧QR g ⟨s',h⟩ w'∧KeepM g w w'
theorem stmt_size:(Tryz.prog.info? 89).map (·.size)=some 9:=by kernel_rfl
theorem stmts_size:(Tryz.prog.info? 58).map (·.size)=some 1:=by kernel_rfl
def Fin5 (w W:World) (g b ga gb:Nat) (p:Int) (ok:Nat→Prop) (b1 c1:St) (s':RS):Prop:=∃ h gn cp,BlkIs W b 89 #[.int .i64 4,.slice (some ⟨ga,0,none⟩) 1 1,.slice (some ⟨gn,0,none⟩) 2 cp,.int .i64 0,.int .i64 0,.int .i64 0,.string ⟨#[]⟩,.int .i64 0,.int .i64 p]∧QR g ⟨s',h⟩ W ∧
 Rep W (fun k=>(ok k ∨ k=gb ∨ w.heap.size≤k)∧k ≠ b) (.lst 9 [encSt b1,encSt c1]) [.slice (some ⟨gn,0,none⟩) 2 cp]∧KeepX (fun k=>k=g ∨ k=b ∨ k=gb) w W
theorem Sx.KeepX.imp {X Y:Nat→Prop} {w w':World} (h:KeepX X w w') (hi:∀ k,X k→Y k):KeepX Y w w':=⟨h.os,h.tape,h.output,h.size,fun g hg hl=>h.block g (fun hx=>hg (hi g hx)) hl⟩
theorem fin5 {w w4 w5:World} {g b ga gb gn cp:Nat} {p:Int} {ok:Nat→Prop} {b1 c1:St} {s':RS} {h:QH} {cur:Array Value} {A B:Option Addr} {cA cB:Nat}
  (hgb:g<b) (hbb:gb ≠ b) (hgg:g<gb) (hgbl:gb<w.heap.size) (hblt:b<w.heap.size) (hok:∀ k,ok k→g<k∧k ≠ b)
  (hH4:BlkIs w4 b 89 #[.int .i64 4,.slice (some ⟨ga,0,none⟩) 1 1,.slice (some ⟨gb,0,none⟩) 1 1,.int .i64 0,.int .i64 0,.int .i64 0,.string ⟨#[]⟩,.int .i64 0,.int .i64 p]) (hr4:QR g ⟨s',h⟩ w4) (hrep4:Rep w4 (fun k=>w.heap.size≤k∧k<w4.heap.size) (encSt c1) (stC c1 A cA B cB)) (hk4:KeepX (fun k=>k=g) w w4)
  (hsz5:w4.heap.size≤w5.heap.size) (hb5:Below 0 w4 w5) (hk5:∀ k,some k ≠ (Value.slice (some ⟨gb,0,none⟩) 1 1).ownBlock→k<w4.heap.size→w5.heap[k]?=w4.heap[k]?) (hloc:(Value.slice (some ⟨gn,0,none⟩) 2 cp).ownBlock=(Value.slice (some ⟨gb,0,none⟩) 1 1).ownBlock ∨ (Value.slice (some ⟨gn,0,none⟩) 2 cp).ownBlock=some w4.heap.size)
  (hh:w5.heap[gn]?=some (.cells cur 89 (0,0))) (hl9:(cur.toList.take 9).length=9) (hrp:Rep w5 (fun k=>ok k∧k ≠ gn) (encSt b1) (cur.toList.take 9)) (h2:2≤cp) (hm:cp≤maxLen) :
  ∀ W,KeepX (fun k=>k=gn ∨ k=b) w5 W→W.heap.size=w5.heap.size→W.heap[gn]?=some (.cells (cur.toList.take 9 ++ stC c1 A cA B cB ++ cur.toList.drop (9 + (stC c1 A cA B cB).length)).toArray 89 (0,0))→BlkIs W b 89 ((#[.int .i64 4,.slice (some ⟨ga,0,none⟩) 1 1,.slice (some ⟨gb,0,none⟩) 1 1,.int .i64 0,.int .i64 0,.int .i64 0,.string ⟨#[]⟩,.int .i64 0,.int .i64 p]:Array Value).toList.take 2 ++ ([.slice (some ⟨gn,0,none⟩) 2 cp]:List Value) ++ (#[.int .i64 4,.slice (some ⟨ga,0,none⟩) 1 1,.slice (some ⟨gb,0,none⟩) 1 1,.int .i64 0,.int .i64 0,.int .i64 0,.string ⟨#[]⟩,.int .i64 0,.int .i64 p]:Array Value).toList.drop (2 + ([.slice (some ⟨gn,0,none⟩) 2 cp]:List Value).length)).toArray→Fin5 w W g b ga gb p ok b1 c1 s':=by
 intro W hkW hsW hgW hbW
 have hgn:gn=gb ∨ gn=w4.heap.size:=by
  rcases hloc with h | h
  ·have h:some gn=some gb:=h
   injection h with h
   exact .inl h
  ·have h:some gn=some w4.heap.size:=h
   injection h with h
   exact .inr h
 have hs4:=hk4.size
 have hne:∀ k,k ≠ gb→some k ≠ (Value.slice (some ⟨gb,0,none⟩) 1 1).ownBlock:=fun k hk e=>hk (by have e:some k=some gb:=e;injection e)
 have hk45:KeepX (fun k=>k=gb) w4 w5:=⟨hb5.os,hb5.tape,hb5.output,hsz5,fun k hk hl=>hk5 k (hne k hk) hl⟩
 have hgl:g<w4.heap.size:=by omega
 refine ⟨h,gn,cp,hbW,?_,?_,?_⟩
 ·refine QR.stable _ w4 W hr4 (by rw [hsW];exact hsz5) fun k hk=>?_
  rw [hkW.block k (by omega) (by omega),hk45.block k (by omega) (by omega)]
 ·refine rep2_after hgW hl9 rfl ?_ ?_ ?_ h2 hm
  ·exact Rep.keep (fun k hk _=>⟨.inl hk.1,(hok k hk.1).2⟩) (fun k hk hl=>hkW.block k (by have:=(hok k hk.1).2;have:=hk.2;omega) hl) _ _ hrp
  ·exact Rep.keep (fun k hk _=>⟨.inr (.inr hk.1),by omega⟩) (fun k hk hl=>by rw [hkW.block k (by omega) (by omega),hk45.block k (by omega) hl]) _ _ hrep4
  ·rcases hgn with e | e
   ·exact ⟨.inr (.inl e),by omega⟩
   ·exact ⟨.inr (.inr (by omega)),by omega⟩
 ·have h1:KeepX (fun k=>k=g ∨ k=gb) w w5:=(hk4.imp fun k hk=>.inl hk).trans (hk45.imp fun k hk=>.inr hk)
  refine ⟨hkW.os.trans h1.os,hkW.tape.trans h1.tape,hkW.output.trans h1.output,Nat.le_trans h1.size hkW.size,fun k hk hl=>?_⟩
  rw [hkW.block k (by omega) (by omega),h1.block k (by omega) hl]
end Go.Proofs.YtdmacgoeikjdbaaGreatDoor
namespace Go.Proofs.YtdmacgoeikjdbaaGreatDoor
open Go.RowKit Sx
set_option maxRecDepth 8000 in
theorem word5 {ops:Array Oper} {bb:Bool} (hx:(ops,bb) ∈ regsT 5 (bodyT Tryz.prog 87)) (a:Act) (w:World) (Q:Exit→Act→World→Prop) (g b ga gb:Nat) (d p:Int) (ok:Nat→Prop) (b1 c1:St) (σ:QS) (s':RS)
  (hsz:a.tmps.size=125) (e0:a.eval (.tmp 0)=ptrV g) (e1:a.eval (.tmp 1)=ptrV b) (e2:a.eval (.tmp 2)=.int .i64 d) (hd:IntKind.i64.wrap (d + 1)=d + 1)
  (hb:BlkIs w b 89 #[.int .i64 4,.slice (some ⟨ga,0,none⟩) 1 1,.slice (some ⟨gb,0,none⟩) 1 1,.int .i64 0,.int .i64 0,.int .i64 0,.string ⟨#[]⟩,.int .i64 0,.int .i64 p]) (hgb:g<b) (hbb:gb ≠ b) (hgg:g<gb) (hblt:b<w.heap.size)
  (hr:QR g σ w) (hown:Own w 0 ok 89 9 (.slice (some ⟨gb,0,none⟩) 1 1) [encSt b1]) (hok:∀ k,ok k→g<k∧k ≠ b)
  (hst:∀ W,QR g σ W→Calls Tryz.prog 72 #[ptrV g,.int .i64 (d + 1)] W (StRet c1 g s' W))
  (hQ:∀ c a w d v,Q (.panic c) (a.put d v) w→Q (.panic c) a w) (hfin:∀ a' W,a'.defers=a.defers→Fin5 w W g b ga gb p ok b1 c1 s'→Q .normal a' W):(Code.region 5 ops bb).wp Tryz.prog Q a w:=by
 rw [bodyT_of Tryz.func87 rfl] at hx
 simp [regsT] at hx
 obtain ⟨rfl,rfl⟩:=hx
 refine anyK_begin 10 (fun W=>BlkIs W b 89 #[.int .i64 4,.slice (some ⟨ga,0,none⟩) 1 1,.slice (some ⟨gb,0,none⟩) 1 1,.int .i64 0,.int .i64 0,.int .i64 0,.string ⟨#[]⟩,.int .i64 0,.int .i64 p]) (by kernel_rfl) ?_
 have hHeld:BlkIs w.drew b 89 #[.int .i64 4,.slice (some ⟨ga,0,none⟩) 1 1,.slice (some ⟨gb,0,none⟩) 1 1,.int .i64 0,.int .i64 0,.int .i64 0,.string ⟨#[]⟩,.int .i64 0,.int .i64 p]:=hb
 have hr0:QR g σ w.drew:=QR.stable σ w w.drew hr (Nat.le_refl _) (fun _ _=>rfl)
 have hown0:Own w.drew 0 ok 89 9 (.slice (some ⟨gb,0,none⟩) 1 1) [encSt b1]:=hown.keep fun _ _=>rfl
 have hk0:KeepX (fun _=>False) w w.drew:=(KeepX.refl _ w).drew
 have hsz0:w.drew.heap.size=w.heap.size:=rfl
 generalize w.drew=w0 at hHeld hr0 hown0 hk0 hsz0 ⊢
 clear hb hr hown
 refine takeP (i:=0) (v:=.pointer (some ⟨b,0,none⟩)) (by kernel_rfl) rfl (fun c a w=>hQ c a w _ _) hHeld (.inl ⟨rfl,fun W _=>by (first | (simp [execOp,act_eval,act_size,hsz,e0,e1,e2];done) | (simp [execOp,act_eval,act_size,hsz,e0,e1,e2];go_simp))⟩) ?_
 refine takeP (i:=1) (v:=.pointer (some ⟨b,0,none⟩)) (by kernel_rfl) rfl (fun c a w=>hQ c a w _ _) hHeld (.inl ⟨rfl,fun W _=>by (first | (simp [execOp,act_eval,act_size,hsz,e0,e1,e2];done) | (simp [execOp,act_eval,act_size,hsz,e0,e1,e2];go_simp))⟩) ?_
 refine takeP (i:=2) (v:=.pointer (some ⟨b,2,none⟩)) (by kernel_rfl) rfl (fun c a w=>hQ c a w _ _) hHeld (.inl ⟨rfl,fun W _=>by (first | (simp [execOp,act_eval,act_size,hsz,e0,e1,e2];done) | (simp [execOp,act_eval,act_size,hsz,e0,e1,e2];go_simp))⟩) ?_
 refine takeK (i:=3) (v:=.slice (some ⟨gb,0,none⟩) 1 1) (by kernel_rfl) rfl (fun c a w=>hQ c a w _ _) hHeld (.inl ⟨rfl,fun W hW=>by have x0:W.cell? ⟨b,2,none⟩=some (.slice (some ⟨gb,0,none⟩) 1 1):=(by rw [BlkIs.cell hW];rfl);simp [execOp,act_eval,act_size,hsz,e0,e1,e2];go_simp⟩) ?_
 refine takeP (i:=4) (v:=ptrV g) (by kernel_rfl) rfl (fun c a w=>hQ c a w _ _) hHeld (.inl ⟨rfl,fun W _=>by (first | (simp [execOp,act_eval,act_size,hsz,e0,e1,e2];done) | (simp [execOp,act_eval,act_size,hsz,e0,e1,e2];go_simp))⟩) ?_
 refine takeP (i:=5) (v:=.int .i64 d) (by kernel_rfl) rfl (fun c a w=>hQ c a w _ _) hHeld (.inl ⟨rfl,fun W _=>by (first | (simp [execOp,act_eval,act_size,hsz,e0,e1,e2];done) | (simp [execOp,act_eval,act_size,hsz,e0,e1,e2];go_simp))⟩) ?_
 refine takeP (i:=6) (v:=.int .i64 (d + 1)) (by kernel_rfl) rfl (fun c a w=>hQ c a w _ _) hHeld (.inl ⟨rfl,fun W _=>by (first | (simp [execOp,act_eval,act_size,hsz,e0,e1,e2];done) | (simp [execOp,act_eval,act_size,hsz,e0,e1,e2];go_simp))⟩) ?_
 refine takeP (i:=8) (v:=.int .i64 1) (by kernel_rfl) rfl (fun c a w=>hQ c a w _ _) hHeld (.inl ⟨rfl,fun W _=>by (first | (simp [execOp,act_eval,act_size,hsz,e0,e1,e2];done) | (simp [execOp,act_eval,act_size,hsz,e0,e1,e2];go_simp))⟩) ?_
 have hgbl:gb<w.heap.size:=by
  obtain ⟨xs,h1,_⟩:=hown0
  rcases h1.2 with ⟨h,_⟩ | ⟨gg,cap,cur,h,_,hh,_⟩
  ·cases h
  ·injection h with h
   injection h with h
   injection h with h
   subst h
   rcases Nat.lt_or_ge gb w0.heap.size with hl | hl
   ·exact hsz0 ▸ hl
   ·rw [Array.getElem?_eq_none hl] at hh;cases hh
 refine twoK (i:=7) (j:=9) (d:=some 41) (d2:=some 43) (by kernel_rfl) rfl rfl rfl rfl rfl rfl rfl rfl (fun K' hK=>?_) (fun K' hK=>?_)
 ·refine wp_go_call 72 _ _ rfl #[ptrV g,.int .i64 (d + 1)] (by simp [act_eval,act_size,hsz,e0,e1,e2]) (fun W=>by go_simp) (hst _ hr0) (fun e w3 he=>?_)
  obtain ⟨A,cA,B,cB,h,rfl,hrep,hr3,hk3⟩:=he
  have hH:=hHeld.keepM hk3 (by omega)
  have hown3:=own_keep2 hown0 (w':=w3) (fun k hl hk=>hk3.block k (hk.elim (fun h=>by have:=(hok k h).1;omega) (fun h=>by have h:some gb=some k:=h;injection h with h;omega)) hl)
  refine ⟨_,rfl,hK.out _ _ hH ?_⟩
  refine oneK (i:=9) (d:=some 43) (by kernel_rfl) rfl rfl rfl rfl (fun K' hK=>?_)
  have hz4:=BlkIs.fresh w3 89 #[.int .i64 0,.slice none 0 0,.slice none 0 0,.int .i64 0,.int .i64 0,.int .i64 0,.string ⟨#[]⟩,.int .i64 0,.int .i64 0]
  have hba:=below_alloc w3 (.cells #[.int .i64 0,.slice none 0 0,.slice none 0 0,.int .i64 0,.int .i64 0,.int .i64 0,.string ⟨#[]⟩,.int .i64 0,.int .i64 0] 89)
  refine wp_val (w':=w3.alloc (.cells #[.int .i64 0,.slice none 0 0,.slice none 0 0,.int .i64 0,.int .i64 0,.int .i64 0,.string ⟨#[]⟩,.int .i64 0,.int .i64 0] 89)) (v:=.slice (some ⟨w3.heap.size,0,none⟩) 1 1) (by (first | (simp [execOp,act_eval,act_size,hsz,e0,e1,e2];done) | (simp [execOp,act_eval,act_size,hsz,e0,e1,e2];go_simp))) (hK.out _ _ (hH.below hba hH.lt) ?_)
  have hown4:=hown3.keep (w':=w3.alloc (.cells #[.int .i64 0,.slice none 0 0,.slice none 0 0,.int .i64 0,.int .i64 0,.int .i64 0,.string ⟨#[]⟩,.int .i64 0,.int .i64 0] 89)) (fun k hl=>hba.block k hl)
  have hr4:=hr3.below hba
  have hH4:=hH.below hba hH.lt
  have hrep4:=Rep.keep (ok':=fun k=>w.heap.size≤k∧k<(w3.alloc (.cells #[.int .i64 0,.slice none 0 0,.slice none 0 0,.int .i64 0,.int .i64 0,.int .i64 0,.string ⟨#[]⟩,.int .i64 0,.int .i64 0] 89)).heap.size) (fun k hk hl=>⟨hsz0 ▸ hk,Nat.lt_of_lt_of_le hl hba.size⟩) (fun k hk hl=>hba.block k hl) _ _ hrep
  have hk4:KeepX (fun k=>k=g) w w3:=KeepX.trans (hk0.imp fun _ h=>h.elim) (KeepX.ofM hk3 rfl)
  have hk4:=hk4.alloc (Obj.cells #[.int .i64 0,.slice none 0 0,.slice none 0 0,.int .i64 0,.int .i64 0,.int .i64 0,.string ⟨#[]⟩,.int .i64 0,.int .i64 0] 89)
  clear hown0 hown3 hr3 hH hk3 hba hrep
  refine oneKL (i:=10) (d:=some 44) (fun _=>True) 99 (by kernel_rfl) rfl rfl rfl rfl (fun K' hK=>?_)
  refine wp_append_at (.tmp 37) (.tmp 43) 58 89 9 (.agg #[.int .i64 0,.slice none 0 0,.slice none 0 0,.int .i64 0,.int .i64 0,.int .i64 0,.string ⟨#[]⟩,.int .i64 0,.int .i64 0]) rfl Tryz.underlying58 stmt_info rfl (by decide) 0 ok (.slice (some ⟨gb,0,none⟩) 1 1) [encSt b1] (by simp [act_eval,act_size,hsz,e0,e1,e2]) w3.heap.size (by simp [act_eval,act_size,hsz,e0,e1,e2]) hown4 [.int .i64 0,.slice none 0 0,.slice none 0 0,.int .i64 0,.int .i64 0,.int .i64 0,.string ⟨#[]⟩,.int .i64 0,.int .i64 0] (encSt (.mk 0 [] [] noTy [] 0 0)) hz4 rfl (by simp [Value.oneCell']) zst_rep (by simp) (Nat.zero_le _) (fun v' w5 hown5 hsz5 hb5 hk5 hloc=>?_)
  refine hK.out _ _ ?_
  have hown5:Own w5 0 ok 89 9 v' [encSt b1,encSt (.mk 0 [] [] noTy [] 0 0)]:=hown5
  obtain ⟨gn,cp,cur,_,rfl,hh,h2,hm,hcs,hl9,hrp⟩:=own2_form hown5
  have hF:=fin5 (h:=h) hgb hbb hgg hgbl hblt hok hH4 hr4 hrep4 hk4 hsz5 hb5 hk5 hloc hh hl9 hrp h2 hm
  clear hrp hown5 hown4 hr4 hrep4 hk4 hz4
  have hgnb:gn ≠ b:=by
   rcases hloc with h | h
   ·have h:some gn=some gb:=h
    injection h with h
    omega
   ·have h:some gn=some (w3.alloc (.cells #[.int .i64 0,.slice none 0 0,.slice none 0 0,.int .i64 0,.int .i64 0,.int .i64 0,.string ⟨#[]⟩,.int .i64 0,.int .i64 0] 89)).heap.size:=h
    injection h with h
    have:=hH4.lt
    omega
  have hH5:BlkIs w5 b 89 #[.int .i64 4,.slice (some ⟨ga,0,none⟩) 1 1,.slice (some ⟨gb,0,none⟩) 1 1,.int .i64 0,.int .i64 0,.int .i64 0,.string ⟨#[]⟩,.int .i64 0,.int .i64 p]:=(hk5 b (fun e=>hbb (by have e:some b=some gb:=e;injection e with e;exact e.symm)) hH4.lt).trans hH4
  refine takeP (i:=11) (v:=.pointer (some ⟨gn,9,none⟩)) (by kernel_rfl) rfl (fun c a w=>hQ c a w _ _) trivial (.inl ⟨rfl,fun W _=>by (first | (simp [execOp,act_eval,act_size,hsz,e0,e1,e2];done) | (simp [execOp,act_eval,act_size,hsz,e0,e1,e2];go_simp))⟩) ?_
  refine takeP (i:=13) (v:=.pointer (some ⟨b,0,none⟩)) (by kernel_rfl) rfl (fun c a w=>hQ c a w _ _) trivial (.inl ⟨rfl,fun W _=>by (first | (simp [execOp,act_eval,act_size,hsz,e0,e1,e2];done) | (simp [execOp,act_eval,act_size,hsz,e0,e1,e2];go_simp))⟩) ?_
  refine takeP (i:=14) (v:=.pointer (some ⟨b,2,none⟩)) (by kernel_rfl) rfl (fun c a w=>hQ c a w _ _) trivial (.inl ⟨rfl,fun W _=>by (first | (simp [execOp,act_eval,act_size,hsz,e0,e1,e2];done) | (simp [execOp,act_eval,act_size,hsz,e0,e1,e2];go_simp))⟩) ?_
  refine two_stores (fuel:=0) (i:=12) (j:=15) (g1:=gn) (f1:=9) (g2:=b) (f2:=2) (c1:=stC c1 A cA B cB) (c2:=[.slice (some ⟨gn,0,none⟩) 2 cp]) (by kernel_rfl) (by kernel_rfl) (by kernel_rfl) (by kernel_rfl) (by kernel_rfl) rfl rfl rfl rfl rfl rfl rfl rfl rfl rfl ?_ ?_ ?_ ?_ hgnb hh hH5 stmt_size stmts_size (by show 9 + 9≤_;omega) (by show 2 + 1≤9;decide) (stC_one c1 A cA B cB) (by simp [Value.oneCell']) (fun W a' hda hkW hsW hgW hbW=>hfin _ _ (hda.trans (by simp only [act_defers])) (hF W hkW hsW hgW hbW))
  ·simp [act_eval,act_size,hsz,e0,e1,e2]
  ·simp [act_eval,act_size,hsz,e0,e1,e2]
  ·simp [act_eval,act_size,hsz,Value.cells]
  ·simp [act_eval,act_size,hsz,Value.cells]
 ·have hz:=BlkIs.fresh w0 89 #[.int .i64 0,.slice none 0 0,.slice none 0 0,.int .i64 0,.int .i64 0,.int .i64 0,.string ⟨#[]⟩,.int .i64 0,.int .i64 0]
  have hba:=below_alloc w0 (.cells #[.int .i64 0,.slice none 0 0,.slice none 0 0,.int .i64 0,.int .i64 0,.int .i64 0,.string ⟨#[]⟩,.int .i64 0,.int .i64 0] 89)
  have hr1:=hr0.below hba
  have hH1:=hHeld.below hba hHeld.lt
  have hown1:=hown0.keep (w':=w0.alloc (.cells #[.int .i64 0,.slice none 0 0,.slice none 0 0,.int .i64 0,.int .i64 0,.int .i64 0,.string ⟨#[]⟩,.int .i64 0,.int .i64 0] 89)) (fun k hl=>hba.block k hl)
  have hgl:=hr0.lt
  refine wp_val (w':=w0.alloc (.cells #[.int .i64 0,.slice none 0 0,.slice none 0 0,.int .i64 0,.int .i64 0,.int .i64 0,.string ⟨#[]⟩,.int .i64 0,.int .i64 0] 89)) (v:=.slice (some ⟨w0.heap.size,0,none⟩) 1 1) (by (first | (simp [execOp,act_eval,act_size,hsz,e0,e1,e2];done) | (simp [execOp,act_eval,act_size,hsz,e0,e1,e2];go_simp))) (hK.out _ _ hH1 ?_)
  refine oneK (i:=7) (d:=some 41) (by kernel_rfl) rfl rfl rfl rfl (fun K' hK=>?_)
  refine wp_go_call 72 _ _ rfl #[ptrV g,.int .i64 (d + 1)] (by simp [act_eval,act_size,hsz,e0,e1,e2]) (fun W=>by go_simp) (hst _ hr1) (fun e w3 he=>?_)
  obtain ⟨A,cA,B,cB,h,rfl,hrep,hr4,hk3⟩:=he
  have hH4:=hH1.keepM hk3 (by omega)
  refine ⟨_,rfl,hK.out _ _ hH4 ?_⟩
  have hz4:=hz.keepM hk3 (by omega)
  have hown4:=own_keep2 hown1 (w':=w3) (fun k hl hk=>hk3.block k (hk.elim (fun h=>by have:=(hok k h).1;omega) (fun h=>by have h:some gb=some k:=h;injection h with h;omega)) hl)
  have hrep4:=Rep.keep (w':=w3) (ok':=fun k=>w.heap.size≤k∧k<w3.heap.size) (fun k hk hl=>⟨hsz0 ▸ Nat.le_trans hba.size hk,hl⟩) (fun _ _ _=>rfl) _ _ hrep
  have hk4:KeepX (fun k=>k=g) w w0:=hk0.imp fun _ h=>h.elim
  have hk4:=hk4.alloc (Obj.cells #[.int .i64 0,.slice none 0 0,.slice none 0 0,.int .i64 0,.int .i64 0,.int .i64 0,.string ⟨#[]⟩,.int .i64 0,.int .i64 0] 89)
  have hk4:KeepX (fun k=>k=g) w w3:=hk4.trans (KeepX.ofM hk3 rfl)
  clear hown0 hown1 hr0 hr1 hH1 hk3 hba hrep hz
  refine oneKL (i:=10) (d:=some 44) (fun _=>True) 99 (by kernel_rfl) rfl rfl rfl rfl (fun K' hK=>?_)
  refine wp_append_at (.tmp 37) (.tmp 43) 58 89 9 (.agg #[.int .i64 0,.slice none 0 0,.slice none 0 0,.int .i64 0,.int .i64 0,.int .i64 0,.string ⟨#[]⟩,.int .i64 0,.int .i64 0]) rfl Tryz.underlying58 stmt_info rfl (by decide) 0 ok (.slice (some ⟨gb,0,none⟩) 1 1) [encSt b1] (by simp [act_eval,act_size,hsz,e0,e1,e2]) w0.heap.size (by simp [act_eval,act_size,hsz,e0,e1,e2]) hown4 [.int .i64 0,.slice none 0 0,.slice none 0 0,.int .i64 0,.int .i64 0,.int .i64 0,.string ⟨#[]⟩,.int .i64 0,.int .i64 0] (encSt (.mk 0 [] [] noTy [] 0 0)) hz4 rfl (by simp [Value.oneCell']) zst_rep (by simp) (Nat.zero_le _) (fun v' w5 hown5 hsz5 hb5 hk5 hloc=>?_)
  refine hK.out _ _ ?_
  have hown5:Own w5 0 ok 89 9 v' [encSt b1,encSt (.mk 0 [] [] noTy [] 0 0)]:=hown5
  obtain ⟨gn,cp,cur,_,rfl,hh,h2,hm,hcs,hl9,hrp⟩:=own2_form hown5
  have hF:=fin5 (h:=h) hgb hbb hgg hgbl hblt hok hH4 hr4 hrep4 hk4 hsz5 hb5 hk5 hloc hh hl9 hrp h2 hm
  clear hrp hown5 hown4 hr4 hrep4 hk4 hz4
  have hgnb:gn ≠ b:=by
   rcases hloc with h | h
   ·have h:some gn=some gb:=h
    injection h with h
    omega
   ·have h:some gn=some w3.heap.size:=h
    injection h with h
    have:=hH4.lt
    omega
  have hH5:BlkIs w5 b 89 #[.int .i64 4,.slice (some ⟨ga,0,none⟩) 1 1,.slice (some ⟨gb,0,none⟩) 1 1,.int .i64 0,.int .i64 0,.int .i64 0,.string ⟨#[]⟩,.int .i64 0,.int .i64 p]:=(hk5 b (fun e=>hbb (by have e:some b=some gb:=e;injection e with e;exact e.symm)) hH4.lt).trans hH4
  refine takeP (i:=11) (v:=.pointer (some ⟨gn,9,none⟩)) (by kernel_rfl) rfl (fun c a w=>hQ c a w _ _) trivial (.inl ⟨rfl,fun W _=>by (first | (simp [execOp,act_eval,act_size,hsz,e0,e1,e2];done) | (simp [execOp,act_eval,act_size,hsz,e0,e1,e2];go_simp))⟩) ?_
  refine takeP (i:=13) (v:=.pointer (some ⟨b,0,none⟩)) (by kernel_rfl) rfl (fun c a w=>hQ c a w _ _) trivial (.inl ⟨rfl,fun W _=>by (first | (simp [execOp,act_eval,act_size,hsz,e0,e1,e2];done) | (simp [execOp,act_eval,act_size,hsz,e0,e1,e2];go_simp))⟩) ?_
  refine takeP (i:=14) (v:=.pointer (some ⟨b,2,none⟩)) (by kernel_rfl) rfl (fun c a w=>hQ c a w _ _) trivial (.inl ⟨rfl,fun W _=>by (first | (simp [execOp,act_eval,act_size,hsz,e0,e1,e2];done) | (simp [execOp,act_eval,act_size,hsz,e0,e1,e2];go_simp))⟩) ?_
  refine two_stores (fuel:=0) (i:=12) (j:=15) (g1:=gn) (f1:=9) (g2:=b) (f2:=2) (c1:=stC c1 A cA B cB) (c2:=[.slice (some ⟨gn,0,none⟩) 2 cp]) (by kernel_rfl) (by kernel_rfl) (by kernel_rfl) (by kernel_rfl) (by kernel_rfl) rfl rfl rfl rfl rfl rfl rfl rfl rfl rfl ?_ ?_ ?_ ?_ hgnb hh hH5 stmt_size stmts_size (by show 9 + 9≤_;omega) (by show 2 + 1≤9;decide) (stC_one c1 A cA B cB) (by simp [Value.oneCell']) (fun W a' hda hkW hsW hgW hbW=>hfin _ _ (hda.trans (by simp only [act_defers])) (hF W hkW hsW hgW hbW))
  ·simp [act_eval,act_size,hsz,e0,e1,e2]
  ·simp [act_eval,act_size,hsz,e0,e1,e2]
  ·simp [act_eval,act_size,hsz,Value.cells]
  ·simp [act_eval,act_size,hsz,Value.cells]
end Go.Proofs.YtdmacgoeikjdbaaGreatDoor

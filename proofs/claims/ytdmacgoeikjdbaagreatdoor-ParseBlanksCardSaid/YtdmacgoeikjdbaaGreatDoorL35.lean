/- Data that lie apart: whatever a list leads to lies in blocks of its ow -/
import Derived.Test.YtdmacgoeikjdbaaGreatDoorL34
set_option linter.unusedSimpArgs false
set_option linter.unusedVariables false
namespace Go.Proofs.YtdmacgoeikjdbaaGreatDoor
open Go.RowKit
mutual
def Sep (w:World):(a b:Nat)→D→List Value→Prop
 | _,_,.int k n,cs=>cs=[.int k n]
 | _,_,.bool x,cs=>cs=[.bool x]
 | _,_,.str s,cs=>cs=[.string ⟨s.toArray⟩]
 | a,b,.st fs,cs=>SepAll w a b fs cs
 | a,b,.lst z xs,cs=>∃ (A:Option Addr) (c:Nat),cs=[.slice A xs.length c]∧xs.length≤c∧c≤maxLen ∧
   (0<xs.length→∃ (g:Nat) (cur:Array Value) (t:TypeId),A=some ⟨g,0,none⟩∧a≤g∧g<b∧w.heap[g]?=some (.cells cur t (0,0))∧SepRow w g a b z xs cur.toList)
def SepAll (w:World):(a b:Nat)→List D→List Value→Prop
 | _,_,[],cs=>cs=[]
 | a,b,d :: ds,cs=>∃ (m:Nat) (c1 c2:List Value),a≤m∧m≤b∧cs=c1 ++ c2∧Sep w a m d c1∧SepAll w m b ds c2
def SepRow (w:World) (g:Nat):(a b:Nat)→(z:Nat)→List D→List Value→Prop
 | _,_,_,[],_=>True
 | a,b,z,d :: ds,cs=>∃ (a1 m:Nat) (c1 c2:List Value),a≤a1∧a1≤m∧m≤b∧(g<a1 ∨ m≤g)∧cs=c1 ++ c2∧c1.length=z∧Sep w a1 m d c1∧SepRow w g m b z ds c2
end
mutual
theorem Sep.mono {w:World}:∀ (d:D) (a b a' b':Nat) (cs:List Value),a'≤a→b≤b'→Sep w a b d cs→Sep w a' b' d cs
 | .int _ _,_,_,_,_,_,_,_,h=>by unfold Sep at h ⊢;exact h
 | .bool _,_,_,_,_,_,_,_,h=>by unfold Sep at h ⊢;exact h
 | .str _,_,_,_,_,_,_,_,h=>by unfold Sep at h ⊢;exact h
 | .st fs,a,b,a',b',cs,ha,hb,h=>by unfold Sep at h ⊢;exact SepAll.mono fs a b a' b' cs ha hb h
 | .lst z xs,a,b,a',b',cs,ha,hb,h=>by
  unfold Sep at h ⊢
  obtain ⟨A,c,hcs,hc,hm,h⟩:=h
  refine ⟨A,c,hcs,hc,hm,fun hn=>?_⟩
  obtain ⟨g,cur,t,hA,h1,h2,hg,hr⟩:=h hn
  exact ⟨g,cur,t,hA,by omega,by omega,hg,SepRow.mono z xs a b a' b' _ ha hb hr⟩
theorem SepAll.mono {w:World}:∀ (ds:List D) (a b a' b':Nat) (cs:List Value),a'≤a→b≤b'→SepAll w a b ds cs→SepAll w a' b' ds cs
 | [],_,_,_,_,_,_,_,h=>by unfold SepAll at h ⊢;exact h
 | d :: ds,a,b,a',b',cs,ha,hb,h=>by
  unfold SepAll at h ⊢
  obtain ⟨m,c1,c2,h1,h2,hcs,h3,h4⟩:=h
  exact ⟨m,c1,c2,by omega,by omega,hcs,Sep.mono d a m a' m _ ha (Nat.le_refl _) h3,SepAll.mono ds m b m b' _ (Nat.le_refl _) hb h4⟩
theorem SepRow.mono {w:World} {g:Nat} (z:Nat):∀ (ds:List D) (a b a' b':Nat) (cs:List Value),a'≤a→b≤b'→SepRow w g a b z ds cs→SepRow w g a' b' z ds cs
 | [],_,_,_,_,_,_,_,_=>by unfold SepRow;trivial
 | d :: ds,a,b,a',b',cs,ha,hb,h=>by
  unfold SepRow at h ⊢
  obtain ⟨a1,m,c1,c2,h1,h2,h3,hg,hcs,hl,h4,h5⟩:=h
  exact ⟨a1,m,c1,c2,by omega,h2,by omega,hg,hcs,hl,h4,SepRow.mono z ds m b m b' _ (Nat.le_refl _) hb h5⟩
end
mutual
theorem Sep.keep {w w':World}:∀ (d:D) (a b:Nat) (cs:List Value),(∀ g,a≤g→g<b→w'.heap[g]?=w.heap[g]?)→Sep w a b d cs→Sep w' a b d cs
 | .int _ _,_,_,_,_,h=>by unfold Sep at h ⊢;exact h
 | .bool _,_,_,_,_,h=>by unfold Sep at h ⊢;exact h
 | .str _,_,_,_,_,h=>by unfold Sep at h ⊢;exact h
 | .st fs,a,b,cs,hk,h=>by unfold Sep at h ⊢;exact SepAll.keep fs a b cs hk h
 | .lst z xs,a,b,cs,hk,h=>by
  unfold Sep at h ⊢
  obtain ⟨A,c,hcs,hc,hm,h⟩:=h
  refine ⟨A,c,hcs,hc,hm,fun hn=>?_⟩
  obtain ⟨g,cur,t,hA,h1,h2,hg,hr⟩:=h hn
  exact ⟨g,cur,t,hA,h1,h2,(hk g h1 h2).trans hg,SepRow.keep z xs a b _ (fun q h1 h2 _=>hk q h1 h2) hr⟩
theorem SepAll.keep {w w':World}:∀ (ds:List D) (a b:Nat) (cs:List Value),(∀ g,a≤g→g<b→w'.heap[g]?=w.heap[g]?)→SepAll w a b ds cs→SepAll w' a b ds cs
 | [],_,_,_,_,h=>by unfold SepAll at h ⊢;exact h
 | d :: ds,a,b,cs,hk,h=>by
  unfold SepAll at h ⊢
  obtain ⟨m,c1,c2,h1,h2,hcs,h3,h4⟩:=h
  exact ⟨m,c1,c2,h1,h2,hcs,Sep.keep d a m _ (fun g h5 h6=>hk g h5 (by omega)) h3,SepAll.keep ds m b _ (fun g h5 h6=>hk g (by omega) h6) h4⟩
theorem SepRow.keep {w w':World} {g:Nat} (z:Nat):∀ (ds:List D) (a b:Nat) (cs:List Value),(∀ q,a≤q→q<b→q ≠ g→w'.heap[q]?=w.heap[q]?)→SepRow w g a b z ds cs→SepRow w' g a b z ds cs
 | [],_,_,_,_,_=>by unfold SepRow;trivial
 | d :: ds,a,b,cs,hk,h=>by
  unfold SepRow at h ⊢
  obtain ⟨a1,m,c1,c2,h1,h2,h3,hg,hcs,hl,h4,h5⟩:=h
  exact ⟨a1,m,c1,c2,h1,h2,h3,hg,hcs,hl,Sep.keep d a1 m _ (fun q h6 h7=>hk q (by omega) (by omega) (by omega)) h4,SepRow.keep z ds m b _ (fun q h6 h7 h8=>hk q (by omega) h7 h8) h5⟩
end
mutual
theorem Sep.rep {w:World} {ok:Nat→Prop}:∀ (d:D) (a b:Nat) (cs:List Value),(∀ g,a≤g→g<b→ok g)→Sep w a b d cs→Rep w ok d cs
 | .int _ _,_,_,_,_,h=>by unfold Sep at h;unfold Rep;exact h
 | .bool _,_,_,_,_,h=>by unfold Sep at h;unfold Rep;exact h
 | .str _,_,_,_,_,h=>by unfold Sep at h;unfold Rep;exact h
 | .st fs,a,b,cs,hk,h=>by unfold Sep at h;unfold Rep;exact SepAll.rep fs a b cs hk h
 | .lst z xs,a,b,cs,hk,h=>by
  unfold Sep at h
  unfold Rep
  obtain ⟨A,c,hcs,hc,hm,h⟩:=h
  refine ⟨A,c,hcs,hc,hm,fun hn=>?_⟩
  obtain ⟨g,cur,t,hA,h1,h2,hg,hr⟩:=h hn
  exact ⟨g,0,cur,t,thawed,hA,hk g h1 h2,hg,SepRow.rep z xs a b _ hk hr⟩
theorem SepAll.rep {w:World} {ok:Nat→Prop}:∀ (ds:List D) (a b:Nat) (cs:List Value),(∀ g,a≤g→g<b→ok g)→SepAll w a b ds cs→RepAll w ok ds cs
 | [],_,_,_,_,h=>by unfold SepAll at h;unfold RepAll;exact h
 | d :: ds,a,b,cs,hk,h=>by
  unfold SepAll at h
  unfold RepAll
  obtain ⟨m,c1,c2,h1,h2,hcs,h3,h4⟩:=h
  exact ⟨c1,c2,hcs,Sep.rep d a m _ (fun g h5 h6=>hk g h5 (by omega)) h3,SepAll.rep ds m b _ (fun g h5 h6=>hk g (by omega) h6) h4⟩
theorem SepRow.rep {w:World} {ok:Nat→Prop} {g:Nat} (z:Nat):∀ (ds:List D) (a b:Nat) (cs:List Value),(∀ q,a≤q→q<b→ok q)→SepRow w g a b z ds cs→RepRow w ok z ds cs
 | [],_,_,_,_,_=>by unfold RepRow;trivial
 | d :: ds,a,b,cs,hk,h=>by
  unfold SepRow at h
  unfold RepRow
  obtain ⟨a1,m,c1,c2,h1,h2,h3,hg,hcs,hl,h4,h5⟩:=h
  exact ⟨c1,c2,hcs,hl,Sep.rep d a1 m _ (fun q h6 h7=>hk q (by omega) (by omega)) h4,SepRow.rep z ds m b _ (fun q h6 h7=>hk q (by omega) h7) h5⟩
end
theorem SepRow.focus {w:World} {g z:Nat}:∀ (ds:List D) (a b:Nat) (cs:List Value) (k:Nat) (hk:k<ds.length),SepRow w g a b z ds cs →
  ∃ (a1 m:Nat) (c:List Value),a≤a1∧a1≤m∧m≤b∧(g<a1 ∨ m≤g)∧c.length=z∧cs=cs.take (k * z) ++ c ++ cs.drop (k * z + z)∧k * z + z≤cs.length∧Sep w a1 m ds[k] c ∧
   ∀ (w':World) (d':D) (c':List Value),c'.length=z→(∀ q,a≤q→q<b→q ≠ g→¬ (a1≤q∧q<m)→w'.heap[q]?=w.heap[q]?)→Sep w' a1 m d' c'→SepRow w' g a b z (ds.set k d') (cs.take (k * z) ++ c' ++ cs.drop (k * z + z))
 | d :: ds,a,b,cs,0,_,h=>by
  unfold SepRow at h
  obtain ⟨a1,m,c1,c2,h1,h2,h3,hg,rfl,hl,h4,h5⟩:=h
  refine ⟨a1,m,c1,h1,h2,h3,hg,hl,by simp [hl],by simp [hl],h4,fun w' d' c' hc' hk hs=>?_⟩
  unfold SepRow
  exact ⟨a1,m,c',c2,h1,h2,h3,hg,by simp [hl],hc',hs,SepRow.keep z ds m b _ (fun q h6 h7 h8=>hk q (by omega) h7 h8 (by omega)) h5⟩
 | d :: ds,a,b,cs,k + 1,hk,h=>by
  unfold SepRow at h
  obtain ⟨a0,m0,c1,c2,h1,h2,h3,hg,rfl,hl,h4,h5⟩:=h
  obtain ⟨a1,m,c,i1,i2,i3,ig,il,ics,ile,is,iw⟩:=SepRow.focus ds m0 b c2 k (by simpa using hk) h5
  have e1:(k + 1) * z=c1.length + k * z:=by rw [Nat.add_mul];omega
  have t1:(c1 ++ c2).take ((k + 1) * z)=c1 ++ c2.take (k * z):=by rw [e1,List.take_length_add_append]
  have t2:(c1 ++ c2).drop ((k + 1) * z + z)=c2.drop (k * z + z):=by rw [e1,Nat.add_assoc,List.drop_length_add_append]
  refine ⟨a1,m,c,by omega,i2,i3,ig,il,?_,by rw [e1];simp;omega,by simpa using is,fun w' d' c' hc' hk2 hs=>?_⟩
  ·rw [t1,t2,List.append_assoc,List.append_assoc,← List.append_assoc (c2.take _)]
   rw [← ics]
  ·rw [t1,t2]
   unfold SepRow
   refine ⟨a0,m0,c1,c2.take (k * z) ++ c' ++ c2.drop (k * z + z),h1,h2,by omega,hg,by simp [List.append_assoc],hl,Sep.keep d a0 m0 _ (fun q h6 h7=>hk2 q (by omega) (by omega) (by omega) (by omega)) h4,iw w' d' c' hc' (fun q h6 h7 h8 h9=>hk2 q (by omega) h7 h8 h9) hs⟩
theorem Sep.focus {w:World} {a b z:Nat} {xs:List D} {A:Option Addr} {n c:Nat} (h:Sep w a b (.lst z xs) [.slice A n c]) (k:Nat) (hk:k<xs.length) :
  ∃ (g:Nat) (cur:Array Value) (t:TypeId) (a1 m:Nat) (cs:List Value),A=some ⟨g,0,none⟩∧a≤g∧g<b∧a≤a1∧a1≤m∧m≤b∧(g<a1 ∨ m≤g)∧cs.length=z∧BlkIs w g t cur∧cur.toList=cur.toList.take (k * z) ++ cs ++ cur.toList.drop (k * z + z)∧k * z + z≤cur.size∧Sep w a1 m xs[k] cs ∧
   ∀ (w':World) (d':D) (cs':List Value),cs'.length=z→(∀ q,a≤q→q<b→q ≠ g→¬ (a1≤q∧q<m)→w'.heap[q]?=w.heap[q]?)→BlkIs w' g t (cur.toList.take (k * z) ++ cs' ++ cur.toList.drop (k * z + z)).toArray→Sep w' a1 m d' cs'→Sep w' a b (.lst z (xs.set k d')) [.slice A n c]:=by
 unfold Sep at h
 obtain ⟨A',c',he,hc,hm,h⟩:=h
 injection he with he _
 injection he with hA hn hcc
 subst hA hn hcc
 obtain ⟨g,cur,t,hA,h1,h2,hg,hr⟩:=h (by omega)
 obtain ⟨a1,m,cs,i1,i2,i3,ig,il,ics,ile,is,iw⟩:=SepRow.focus xs a b cur.toList k hk hr
 refine ⟨g,cur,t,a1,m,cs,hA,h1,h2,i1,i2,i3,ig,il,hg,ics,by simpa using ile,is,fun w' d' cs' hl hkeep hb hs=>?_⟩
 unfold Sep
 refine ⟨A,c,by rw [List.length_set],by rw [List.length_set];exact hc,hm,fun _=>⟨g,_,t,hA,h1,h2,hb,?_⟩⟩
 exact iw w' d' cs' hl hkeep hs
theorem Sep.len {w:World} {a b z:Nat} {xs:List D} {v:Value} (h:Sep w a b (.lst z xs) [v]):∃ (A:Option Addr) (c:Nat),v=.slice A xs.length c∧xs.length≤c∧c≤maxLen:=by
 unfold Sep at h
 obtain ⟨A,c,he,h1,h2,_⟩:=h
 injection he with he _
 exact ⟨A,c,he,h1,h2⟩
theorem sepAll_nil {w:World} {a b:Nat} {cs:List Value} (h:SepAll w a b [] cs):cs=[]:=by unfold SepAll at h;exact h
theorem sepAll_nil' {w:World} {a b:Nat}:SepAll w a b [] []:=by unfold SepAll;rfl
theorem sepAll_int {w:World} {a b:Nat} {k:IntKind} {n:Int} {ds:List D} {cs:List Value} (h:SepAll w a b (.int k n :: ds) cs):∃ r,cs=.int k n :: r∧SepAll w a b ds r:=by
 unfold SepAll at h
 obtain ⟨m,c1,c2,h1,h2,rfl,h3,h4⟩:=h
 unfold Sep at h3
 subst h3
 exact ⟨c2,rfl,SepAll.mono ds m b a b c2 h1 (Nat.le_refl _) h4⟩
theorem sepAll_int' {w:World} {a b:Nat} {k:IntKind} {n:Int} {ds:List D} {r:List Value} (hab:a≤b) (h:SepAll w a b ds r):SepAll w a b (.int k n :: ds) (.int k n :: r):=by
 unfold SepAll
 exact ⟨a,[.int k n],r,Nat.le_refl _,hab,rfl,by unfold Sep;rfl,h⟩
theorem sepAll_str {w:World} {a b:Nat} {s:List UInt8} {ds:List D} {cs:List Value} (h:SepAll w a b (.str s :: ds) cs):∃ r,cs=strV8 s :: r∧SepAll w a b ds r:=by
 unfold SepAll at h
 obtain ⟨m,c1,c2,h1,h2,rfl,h3,h4⟩:=h
 unfold Sep at h3
 subst h3
 exact ⟨c2,rfl,SepAll.mono ds m b a b c2 h1 (Nat.le_refl _) h4⟩
theorem sepAll_str' {w:World} {a b:Nat} {s:List UInt8} {ds:List D} {r:List Value} (hab:a≤b) (h:SepAll w a b ds r):SepAll w a b (.str s :: ds) (strV8 s :: r):=by
 unfold SepAll
 exact ⟨a,[strV8 s],r,Nat.le_refl _,hab,rfl,by unfold Sep;rfl,h⟩
theorem sepAll_lst {w:World} {a b z:Nat} {xs ds:List D} {cs:List Value} (h:SepAll w a b (.lst z xs :: ds) cs):∃ m A c r,a≤m∧m≤b∧cs=.slice A xs.length c :: r∧Sep w a m (.lst z xs) [.slice A xs.length c]∧SepAll w m b ds r:=by
 unfold SepAll at h
 obtain ⟨m,c1,c2,h1,h2,rfl,h3,h4⟩:=h
 have h3':=h3
 unfold Sep at h3
 obtain ⟨A,c,rfl,_⟩:=h3
 exact ⟨m,A,c,c2,h1,h2,rfl,h3',h4⟩
theorem sepAll_lst' {w:World} {a b m z:Nat} {xs ds:List D} {A:Option Addr} {c:Nat} {r:List Value} (h1:a≤m) (h2:m≤b) (h:Sep w a m (.lst z xs) [.slice A xs.length c]) (hr:SepAll w m b ds r):SepAll w a b (.lst z xs :: ds) (.slice A xs.length c :: r):=by
 unfold SepAll
 exact ⟨m,[.slice A xs.length c],r,h1,h2,rfl,h,hr⟩
theorem sep_ex {w:World} {a b:Nat} {x:Ex} {cs:List Value} (h:Sep w a b (encEx x) cs):∃ A c,cs=exC x A c∧Sep w a b (.lst 8 (x.kids.map encEx)) [.slice A x.kids.length c]:=by
 rw [encEx_eq] at h
 unfold Sep at h
 obtain ⟨_,rfl,q1⟩:=sepAll_int h
 obtain ⟨_,rfl,q2⟩:=sepAll_int q1
 obtain ⟨_,rfl,q3⟩:=sepAll_int q2
 obtain ⟨_,rfl,q4⟩:=sepAll_int q3
 obtain ⟨_,rfl,q5⟩:=sepAll_str q4
 obtain ⟨_,rfl,q6⟩:=sepAll_int q5
 obtain ⟨m,A,c,_,g1,g2,rfl,h1,q7⟩:=sepAll_lst q6
 obtain ⟨_,rfl,q8⟩:=sepAll_int q7
 obtain rfl:=sepAll_nil q8
 rw [List.length_map] at h1
 exact ⟨A,c,by simp [exC],Sep.mono _ _ _ _ _ _ (Nat.le_refl _) g2 h1⟩
theorem sep_ex' {w:World} {a b:Nat} {x:Ex} {A:Option Addr} {c:Nat} (hab:a≤b) (h:Sep w a b (.lst 8 (x.kids.map encEx)) [.slice A x.kids.length c]):Sep w a b (encEx x) (exC x A c):=by
 rw [encEx_eq]
 unfold Sep exC
 have e:(x.kids.map encEx).length=x.kids.length:=List.length_map _
 rw [← e] at h ⊢
 exact sepAll_int' hab (sepAll_int' hab (sepAll_int' hab (sepAll_int' hab (sepAll_str' hab (sepAll_int' hab (sepAll_lst' hab (Nat.le_refl _) h (sepAll_int' (Nat.le_refl _) sepAll_nil')))))))
theorem sep_st {w:World} {a b:Nat} {x:St} {cs:List Value} (h:Sep w a b (encSt x) cs):∃ m A c B d,a≤m∧m≤b∧cs=stC x A c B d∧Sep w a m (.lst 8 (x.ex.map encEx)) [.slice A x.ex.length c]∧Sep w m b (.lst 9 (x.body.map encSt)) [.slice B x.body.length d]:=by
 rw [encSt_eq] at h
 unfold Sep at h
 obtain ⟨_,rfl,q1⟩:=sepAll_int h
 obtain ⟨m,A,c,_,g1,g2,rfl,h1,q2⟩:=sepAll_lst q1
 obtain ⟨m2,B,d,_,g3,g4,rfl,h2,q3⟩:=sepAll_lst q2
 obtain ⟨_,rfl,q4⟩:=sepAll_int q3
 obtain ⟨_,rfl,q5⟩:=sepAll_int q4
 obtain ⟨_,rfl,q6⟩:=sepAll_int q5
 obtain ⟨_,rfl,q7⟩:=sepAll_str q6
 obtain ⟨_,rfl,q8⟩:=sepAll_int q7
 obtain ⟨_,rfl,q9⟩:=sepAll_int q8
 obtain rfl:=sepAll_nil q9
 rw [List.length_map] at h1 h2
 exact ⟨m,A,c,B,d,g1,by omega,by simp [stC],h1,Sep.mono _ _ _ _ _ _ (Nat.le_refl _) g4 h2⟩
theorem sep_st' {w:World} {a m b:Nat} {x:St} {A:Option Addr} {c:Nat} {B:Option Addr} {d:Nat} (h1:a≤m) (h2:m≤b) (he:Sep w a m (.lst 8 (x.ex.map encEx)) [.slice A x.ex.length c]) (hb:Sep w m b (.lst 9 (x.body.map encSt)) [.slice B x.body.length d]):Sep w a b (encSt x) (stC x A c B d):=by
 rw [encSt_eq]
 unfold Sep stC
 have e1:(x.ex.map encEx).length=x.ex.length:=List.length_map _
 have e2:(x.body.map encSt).length=x.body.length:=List.length_map _
 rw [← e1] at he ⊢
 rw [← e2] at hb ⊢
 have hr:=Nat.le_refl b
 exact sepAll_int' (by omega) (sepAll_lst' h1 h2 he (sepAll_lst' h2 hr hb (sepAll_int' hr (sepAll_int' hr (sepAll_int' hr (sepAll_str' hr (sepAll_int' hr (sepAll_int' hr sepAll_nil'))))))))
theorem sep_de {w:World} {a b:Nat} {x:De} {cs:List Value} (h:Sep w a b (encDe x) cs):∃ A c,cs=deC x A c∧Sep w a b (.lst 1 (x.init.map (.int .i64))) [.slice A x.init.length c]:=by
 unfold encDe at h
 unfold Sep at h
 obtain ⟨_,rfl,q1⟩:=sepAll_str h
 obtain ⟨_,rfl,q2⟩:=sepAll_int q1
 obtain ⟨_,rfl,q3⟩:=sepAll_int q2
 obtain ⟨_,rfl,q4⟩:=sepAll_int q3
 obtain ⟨m,A,c,_,g1,g2,rfl,h1,q7⟩:=sepAll_lst q4
 obtain ⟨_,rfl,q8⟩:=sepAll_int q7
 obtain rfl:=sepAll_nil q8
 rw [List.length_map] at h1
 exact ⟨A,c,by simp [deC],Sep.mono _ _ _ _ _ _ (Nat.le_refl _) g2 h1⟩
theorem sep_de' {w:World} {a b:Nat} {x:De} {A:Option Addr} {c:Nat} (hab:a≤b) (h:Sep w a b (.lst 1 (x.init.map (.int .i64))) [.slice A x.init.length c]):Sep w a b (encDe x) (deC x A c):=by
 unfold encDe
 unfold Sep deC
 have e:(x.init.map (D.int .i64)).length=x.init.length:=List.length_map _
 rw [← e] at h ⊢
 exact sepAll_str' hab (sepAll_int' hab (sepAll_int' hab (sepAll_int' hab (sepAll_lst' hab (Nat.le_refl _) h (sepAll_int' (Nat.le_refl _) sepAll_nil')))))
theorem sep_fn {w:World} {a b:Nat} {x:Fn} {cs:List Value} (h:Sep w a b (encFn x) cs):∃ m1 m2 A c B d E f,a≤m1∧m1≤m2∧m2≤b∧cs=fnC x A c B d E f∧Sep w a m1 (.lst 6 (x.params.map encDe)) [.slice A x.params.length c]∧Sep w m1 m2 (.lst 9 (x.body.map encSt)) [.slice B x.body.length d]∧Sep w m2 b (.lst 6 (x.locals.map encDe)) [.slice E x.locals.length f]:=by
 unfold encFn at h
 unfold Sep at h
 obtain ⟨_,rfl,q1⟩:=sepAll_str h
 obtain ⟨_,rfl,q2⟩:=sepAll_int q1
 obtain ⟨_,rfl,q3⟩:=sepAll_int q2
 obtain ⟨_,rfl,q4⟩:=sepAll_int q3
 obtain ⟨m1,A,c,_,g1,g2,rfl,h1,q5⟩:=sepAll_lst q4
 obtain ⟨m2,B,d,_,g3,g4,rfl,h2,q6⟩:=sepAll_lst q5
 obtain ⟨m3,E,f,_,g5,g6,rfl,h3,q7⟩:=sepAll_lst q6
 obtain ⟨_,rfl,q8⟩:=sepAll_int q7
 obtain rfl:=sepAll_nil q8
 rw [List.length_map] at h1 h2 h3
 exact ⟨m1,m2,A,c,B,d,E,f,g1,g3,by omega,by simp [fnC],h1,h2,Sep.mono _ _ _ _ _ _ (Nat.le_refl _) g6 h3⟩
theorem sep_fn' {w:World} {a m1 m2 b:Nat} {x:Fn} {A:Option Addr} {c:Nat} {B:Option Addr} {d:Nat} {E:Option Addr} {f:Nat} (h1:a≤m1) (h2:m1≤m2) (h3:m2≤b) (hp:Sep w a m1 (.lst 6 (x.params.map encDe)) [.slice A x.params.length c]) (hb:Sep w m1 m2 (.lst 9 (x.body.map encSt)) [.slice B x.body.length d]) (hl:Sep w m2 b (.lst 6 (x.locals.map encDe)) [.slice E x.locals.length f]):Sep w a b (encFn x) (fnC x A c B d E f):=by
 unfold encFn
 unfold Sep fnC
 have e1:(x.params.map encDe).length=x.params.length:=List.length_map _
 have e2:(x.body.map encSt).length=x.body.length:=List.length_map _
 have e3:(x.locals.map encDe).length=x.locals.length:=List.length_map _
 rw [← e1] at hp ⊢
 rw [← e2] at hb ⊢
 rw [← e3] at hl ⊢
 have hr:a≤b:=by omega
 exact sepAll_str' hr (sepAll_int' hr (sepAll_int' hr (sepAll_int' hr (sepAll_lst' h1 (by omega) hp (sepAll_lst' h2 h3 hb (sepAll_lst' h3 (Nat.le_refl _) hl (sepAll_int' (Nat.le_refl _) sepAll_nil')))))))
end Go.Proofs.YtdmacgoeikjdbaaGreatDoor

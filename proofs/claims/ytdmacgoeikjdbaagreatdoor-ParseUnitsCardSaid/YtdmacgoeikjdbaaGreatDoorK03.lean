/- Data as it lies in memory: numbers, texts, structs, slices of these, h -/
import Derived.Test.YtdmacgoeikjdbaaGreatDoorK01
import Derived.Maps.AppendAt
import Derived.Laws.Tables
import Derived.Test.YtdmacgoeikjdbaaGreatDoorK02
import Derived.Outline
set_option maxHeartbeats 1000000
namespace Go.Proofs.YtdmacgoeikjdbaaGreatDoor
open Go.RowKit
inductive D where
 | int (k:IntKind) (n:Int)
 | bool (b:Bool)
 | str (s:List UInt8)
 | st (fs:List D)
 | lst (z:Nat) (xs:List D)
abbrev Thawed:={p:Nat × Nat // p=(0,0)}
def thawed:Thawed:=⟨(0,0),rfl⟩
mutual
def Rep (w:World) (ok:Nat→Prop):D→List Value→Prop
 | .int k n,cs=>cs=[.int k n]
 | .bool b,cs=>cs=[.bool b]
 | .str s,cs=>cs=[.string ⟨s.toArray⟩]
 | .st fs,cs=>RepAll w ok fs cs
 | .lst z xs,cs=>∃ (A:Option Addr) (c:Nat),cs=[.slice A xs.length c]∧xs.length≤c∧c≤maxLen ∧
   (0<xs.length→∃ (g off:Nat) (cur:Array Value) (t:TypeId) (fr:Thawed),A=some ⟨g,off,none⟩∧ok g∧w.heap[g]?=some (.cells cur t fr.1)∧RepRow w ok z xs (cur.toList.drop off))
def RepAll (w:World) (ok:Nat→Prop):List D→List Value→Prop
 | [],cs=>cs=[]
 | d :: ds,cs=>∃ a b:List Value,cs=a ++ b∧Rep w ok d a∧RepAll w ok ds b
def RepRow (w:World) (ok:Nat→Prop) (z:Nat):List D→List Value→Prop
 | [],_=>True
 | d :: ds,cs=>∃ a b:List Value,cs=a ++ b∧a.length=z∧Rep w ok d a∧RepRow w ok z ds b
end
mutual
theorem Rep.keep {w w':World} {ok ok':Nat→Prop} (hk:∀ g,ok g→g<w.heap.size→ok' g) (h:∀ g,ok g→g<w.heap.size→w'.heap[g]?=w.heap[g]?):∀ (d:D) (cs:List Value),Rep w ok d cs→Rep w' ok' d cs
 | .int _ _,_,hr=>by unfold Rep at hr ⊢;exact hr
 | .bool _,_,hr=>by unfold Rep at hr ⊢;exact hr
 | .str _,_,hr=>by unfold Rep at hr ⊢;exact hr
 | .st fs,cs,hr=>by unfold Rep at hr ⊢;exact RepAll.keep hk h fs cs hr
 | .lst z xs,cs,hr=>by
  unfold Rep at hr ⊢
  obtain ⟨A,c,hcs,hc,hm,hr⟩:=hr
  refine ⟨A,c,hcs,hc,hm,fun hn=>?_⟩
  obtain ⟨g,off,cur,t,fr,hA,hok,hg,hrow⟩:=hr hn
  exact ⟨g,off,cur,t,fr,hA,hk g hok (lt_of_block hg),(h g hok (lt_of_block hg)).trans hg,RepRow.keep hk h z xs _ hrow⟩
theorem RepAll.keep {w w':World} {ok ok':Nat→Prop} (hk:∀ g,ok g→g<w.heap.size→ok' g) (h:∀ g,ok g→g<w.heap.size→w'.heap[g]?=w.heap[g]?):∀ (ds:List D) (cs:List Value),RepAll w ok ds cs→RepAll w' ok' ds cs
 | [],_,hr=>by unfold RepAll at hr ⊢;exact hr
 | d :: ds,cs,hr=>by
  unfold RepAll at hr ⊢
  obtain ⟨a,b,hcs,h1,h2⟩:=hr
  exact ⟨a,b,hcs,Rep.keep hk h d a h1,RepAll.keep hk h ds b h2⟩
theorem RepRow.keep {w w':World} {ok ok':Nat→Prop} (hk:∀ g,ok g→g<w.heap.size→ok' g) (h:∀ g,ok g→g<w.heap.size→w'.heap[g]?=w.heap[g]?) (z:Nat):∀ (ds:List D) (cs:List Value),RepRow w ok z ds cs→RepRow w' ok' z ds cs
 | [],_,_=>by unfold RepRow;exact trivial
 | d :: ds,cs,hr=>by
  unfold RepRow at hr ⊢
  obtain ⟨a,b,hcs,hl,h1,h2⟩:=hr
  exact ⟨a,b,hcs,hl,Rep.keep hk h d a h1,RepRow.keep hk h z ds b h2⟩
end
section
variable {w w':World} {ok:Nat→Prop} {d:D} {cs:List Value}
theorem Rep.any (h:Rep w ok d cs):Rep w (fun _=>True) d cs:=Rep.keep (fun _ _ _=>trivial) (fun _ _ _=>rfl) d cs h
theorem Rep.below (h:Rep w ok d cs) (hb:Below w.heap.size w w'):Rep w' ok d cs:=Rep.keep (fun _ h _=>h) (fun g _ hg=>hb.block g hg) d cs h
theorem Rep.drewN (h:Rep w ok d cs) (n:Nat):Rep (w.drewN n) ok d cs:=Rep.keep (w:=w) (w':=w.drewN n) (fun _ h _=>h) (fun _ _ _=>rfl) d cs h
theorem Rep.drew (h:Rep w ok d cs):Rep w.drew ok d cs:=Rep.keep (w:=w) (w':=w.drew) (fun _ h _=>h) (fun _ _ _=>rfl) d cs h
theorem Rep.imp {ok':Nat→Prop} (h:Rep w ok d cs) (hk:∀ g,ok g→g<w.heap.size→ok' g):Rep w ok' d cs:=Rep.keep hk (fun _ _ _=>rfl) d cs h
end
theorem RepRow.at_ {w:World} {ok:Nat→Prop} {z:Nat}:∀ (ds:List D) (cs:List Value) (k:Nat) (hk:k<ds.length),RepRow w ok z ds cs→∃ a:List Value,a.length=z∧Rep w ok ds[k] a∧∀ j,j<z→cs[k * z + j]?=a[j]?
 | d :: ds,cs,0,_,hr=>by
  unfold RepRow at hr
  obtain ⟨a,b,rfl,hl,h1,_⟩:=hr
  refine ⟨a,hl,h1,fun j hj=>?_⟩
  rw [Nat.zero_mul,Nat.zero_add,List.getElem?_append_left (by omega)]
 | d :: ds,cs,k + 1,hk,hr=>by
  unfold RepRow at hr
  obtain ⟨a,b,rfl,hl,_,h2⟩:=hr
  obtain ⟨a',h3,h4,h5⟩:=RepRow.at_ ds b k (by simpa using hk) h2
  refine ⟨a',h3,h4,fun j hj=>?_⟩
  rw [List.getElem?_append_right (by rw [hl,Nat.add_mul];omega),← h5 j hj]
  congr 1
  rw [hl,Nat.add_mul];omega
theorem Rep.at_ {w:World} {ok:Nat→Prop} {z:Nat} {xs:List D} {A:Option Addr} {n c:Nat} (h:Rep w ok (.lst z xs) [.slice A n c]) (k:Nat) (hk:k<xs.length) :
  ∃ (g off:Nat) (a:List Value),A=some ⟨g,off,none⟩∧ok g∧g<w.heap.size∧a.length=z∧Rep w ok xs[k] a∧∀ j,j<z→w.cell? ⟨g,off + (k * z + j),none⟩=a[j]?:=by
 unfold Rep at h
 obtain ⟨A',c',he,_,_,h⟩:=h
 injection he with he _
 injection he with hA _ _
 subst hA
 obtain ⟨g,off,cur,t,fr,hA,hok,hg,hrow⟩:=h (by omega)
 obtain ⟨a,h1,h2,h3⟩:=RepRow.at_ xs _ k hk hrow
 refine ⟨g,off,a,hA,hok,lt_of_block hg,h1,h2,fun j hj=>?_⟩
 rw [cell_of_row w g _ cur t fr hg,← h3 j hj,List.getElem?_drop]
 simp
theorem Rep.len {w:World} {ok:Nat→Prop} {z:Nat} {xs:List D} {v:Value} (h:Rep w ok (.lst z xs) [v]):∃ (A:Option Addr) (c:Nat),v=.slice A xs.length c∧xs.length≤c∧c≤maxLen:=by
 unfold Rep at h
 obtain ⟨A,c,he,hc,hm,_⟩:=h
 injection he with he _
 exact ⟨A,c,he,hc,hm⟩
def Cells (w:World) (ok:Nat→Prop) (z:Nat):List D→List Value→Prop
 | [],cs=>cs=[]
 | d :: ds,cs=>∃ a b:List Value,cs=a ++ b∧a.length=z∧Rep w ok d a∧Cells w ok z ds b
theorem Cells.row {w:World} {ok:Nat→Prop} {z:Nat} (m:List Value):∀ {ds:List D} {cs:List Value},Cells w ok z ds cs→RepRow w ok z ds (cs ++ m)
 | [],_,_=>by unfold RepRow;exact trivial
 | d :: ds,cs,h=>by
  obtain ⟨a,b,rfl,hl,h1,h2⟩:=h
  unfold RepRow
  exact ⟨a,b ++ m,by rw [List.append_assoc],hl,h1,Cells.row m h2⟩
theorem Cells.keep {w w':World} {ok ok':Nat→Prop} {z:Nat} (hk:∀ g,ok g→g<w.heap.size→ok' g) (h:∀ g,ok g→g<w.heap.size→w'.heap[g]?=w.heap[g]?):∀ {ds:List D} {cs:List Value},Cells w ok z ds cs→Cells w' ok' z ds cs
 | [],_,hr=>hr
 | d :: ds,cs,hr=>by
  obtain ⟨a,b,hcs,hl,h1,h2⟩:=hr
  exact ⟨a,b,hcs,hl,Rep.keep hk h d a h1,Cells.keep hk h h2⟩
theorem Cells.snoc {w:World} {ok:Nat→Prop} {z:Nat} {d:D} {c:List Value} (hl:c.length=z) (hd:Rep w ok d c):∀ {ds:List D} {cs:List Value},Cells w ok z ds cs→Cells w ok z (ds ++ [d]) (cs ++ c)
 | [],cs,h=>by
  have h:cs=[]:=h
  subst h
  exact ⟨c,[],by simp,hl,hd,rfl⟩
 | e :: ds,cs,h=>by
  obtain ⟨a,b,rfl,h1,h2,h3⟩:=h
  exact ⟨a,b ++ c,by rw [List.append_assoc],h1,h2,Cells.snoc hl hd h3⟩
def Own (w:World) (B:Nat) (ok:Nat→Prop) (e:TypeId) (z:Nat) (v:Value) (ds:List D):Prop:=
 ∃ xs:List Value,w.ownsRow B e z v ds.length xs∧Cells w (fun g=>ok g∧some g ≠ v.ownBlock) z ds xs
theorem Own.nil (w:World) (B:Nat) (ok:Nat→Prop) (e:TypeId) (z:Nat):Own w B ok e z (.slice none 0 0) []:=⟨[],⟨by simp,.inl ⟨rfl,rfl⟩⟩,rfl⟩
section
variable {w w':World} {B:Nat} {ok:Nat→Prop} {e:TypeId} {z:Nat} {v:Value} {ds:List D}
theorem Own.keep (h:Own w B ok e z v ds) (hk:∀ g,g<w.heap.size→w'.heap[g]?=w.heap[g]?):Own w' B ok e z v ds:=by
 obtain ⟨xs,h1,h2⟩:=h
 refine ⟨xs,⟨h1.1,?_⟩,Cells.keep (fun _ h _=>h) (fun g _ hg=>hk g hg) h2⟩
 rcases h1.2 with h3 | ⟨g,cap,cur,hv,hb,hh,hr⟩
 ·exact .inl h3
 ·exact .inr ⟨g,cap,cur,hv,hb,(hk g (lt_of_block hh)).trans hh,hr⟩
theorem Own.imp {ok':Nat→Prop} (h:Own w B ok e z v ds) (hk:∀ g,ok g→g<w.heap.size→ok' g):Own w B ok' e z v ds:=by
 obtain ⟨xs,h1,h2⟩:=h
 exact ⟨xs,h1,Cells.keep (fun g hg hl=>⟨hk g hg.1 hl,hg.2⟩) (fun _ _ _=>rfl) h2⟩
theorem Own.rep (h:Own w B ok e z v ds):Rep w (fun g=>ok g ∨ B≤g) (.lst z ds) [v]:=by
 obtain ⟨xs,h1,h2⟩:=h
 unfold Rep
 rcases h1.2 with ⟨hv,hn⟩ | ⟨g,cap,cur,hv,hb,hh,hc,hm,hsz,ht⟩
 ·exact ⟨none,0,by rw [hv,hn],by omega,by simp,fun h=>absurd h (by omega)⟩
 ·refine ⟨some ⟨g,0,none⟩,cap,by rw [hv],hc,hm,fun _=>⟨g,0,cur,e,thawed,rfl,.inr hb,hh,?_⟩⟩
  have h3:cur.toList.drop 0=xs ++ cur.toList.drop (ds.length * z):=by
   rw [List.drop_zero,← ht,List.take_append_drop]
  rw [h3]
  exact RepRow.keep (fun _ h _=>.inl h.1) (fun _ _ _=>rfl) z ds _ (h2.row _)
end
theorem Cells.length {w:World} {ok:Nat→Prop} {z:Nat}:∀ {ds:List D} {cs:List Value},Cells w ok z ds cs→cs.length=ds.length * z
 | [],cs,h=>by
  have h:cs=[]:=h
  simp [h]
 | d :: ds,cs,h=>by
  obtain ⟨a,b,rfl,hl,_,h2⟩:=h
  have:=Cells.length h2
  simp only [List.length_append,List.length_cons,hl,this,Nat.add_mul]
  omega
theorem Own.fresh {w:World} {B:Nat} {ok:Nat→Prop} {e:TypeId} {z:Nat} {ds:List D} {cs:List Value} (hc:Cells w ok z ds cs) (hB:B≤w.heap.size) (hn:ds.length≤maxLen) {g n:Nat} (hg:g=w.heap.size) (hl:n=ds.length) :
  Own (w.alloc (.cells cs.toArray e)) B ok e z (.slice (some ⟨g,0,none⟩) n n) ds:=by
 subst hg hl
 have hlen:=hc.length
 refine ⟨cs,⟨hlen,.inr ⟨w.heap.size,ds.length,cs.toArray,rfl,hB,heap_alloc_new w _,Nat.le_refl _,hn,by simpa using hlen,?_⟩⟩,?_⟩
 ·rw [← hlen];simp
 ·refine Cells.keep (fun g hok hg=>⟨hok,?_⟩) (fun g _ hg=>Below.heap_alloc w _ g hg) hc
  intro h
  have:g=w.heap.size:=by simpa [Value.ownBlock] using h
  omega
mutual
theorem Rep.one {w:World} {ok:Nat→Prop}:∀ (d:D) (cs:List Value),Rep w ok d cs→∀ u ∈ cs,u.oneCell'=true
 | .int _ _,_,hr=>by unfold Rep at hr;subst hr;simp [Value.oneCell']
 | .bool _,_,hr=>by unfold Rep at hr;subst hr;simp [Value.oneCell']
 | .str _,_,hr=>by unfold Rep at hr;subst hr;simp [Value.oneCell']
 | .st fs,cs,hr=>by unfold Rep at hr;exact RepAll.one fs cs hr
 | .lst z xs,cs,hr=>by
  unfold Rep at hr
  obtain ⟨A,c,rfl,_⟩:=hr
  simp [Value.oneCell']
theorem RepAll.one {w:World} {ok:Nat→Prop}:∀ (ds:List D) (cs:List Value),RepAll w ok ds cs→∀ u ∈ cs,u.oneCell'=true
 | [],_,hr=>by unfold RepAll at hr;subst hr;simp
 | d :: ds,cs,hr=>by
  unfold RepAll at hr
  obtain ⟨a,b,rfl,h1,h2⟩:=hr
  intro u hu
  rcases List.mem_append.1 hu with hu | hu
  ·exact Rep.one d a h1 u hu
  ·exact RepAll.one ds b h2 u hu
end
theorem Cells.one {w:World} {ok:Nat→Prop} {z:Nat}:∀ {ds:List D} {cs:List Value},Cells w ok z ds cs→∀ u ∈ cs,u.oneCell'=true
 | [],cs,h=>by
  have h:cs=[]:=h
  subst h;simp
 | d :: ds,cs,h=>by
  obtain ⟨a,b,rfl,_,h1,h2⟩:=h
  intro u hu
  rcases List.mem_append.1 hu with hu | hu
  ·exact Rep.one d a h1 u hu
  ·exact Cells.one h2 u hu
theorem Cells.append {w:World} {ok:Nat→Prop} {z:Nat} {es:List D} {ys:List Value} (h:Cells w ok z es ys):∀ {ds:List D} {cs:List Value},Cells w ok z ds cs→Cells w ok z (ds ++ es) (cs ++ ys)
 | [],cs,h0=>by
  have h0:cs=[]:=h0
  subst h0;simpa using h
 | d :: ds,cs,h0=>by
  obtain ⟨a,b,rfl,h1,h2,h3⟩:=h0
  exact ⟨a,b ++ ys,by rw [List.append_assoc],h1,h2,Cells.append h h3⟩
end Go.Proofs.YtdmacgoeikjdbaaGreatDoor
namespace Go.Proofs.YtdmacgoeikjdbaaGreatDoor
open Go.RowKit
structure KeepM (gm:Nat) (w w':World):Prop where
 os:w'.os=w.os
 tape:w'.tape=w.tape
 output:w'.output=w.output
 size:w.heap.size≤w'.heap.size
 block:∀ g,g ≠ gm→g<w.heap.size→w'.heap[g]?=w.heap[g]?
section
variable {gm:Nat} {w w' w2:World}
theorem KeepM.refl (gm:Nat) (w:World):KeepM gm w w:=⟨rfl,rfl,rfl,Nat.le_refl _,fun _ _ _=>rfl⟩
theorem KeepM.trans (h:KeepM gm w w') (k:KeepM gm w' w2):KeepM gm w w2:=
 ⟨k.os.trans h.os,k.tape.trans h.tape,k.output.trans h.output,Nat.le_trans h.size k.size,fun g hg hl=>(k.block g hg (Nat.lt_of_lt_of_le hl h.size)).trans (h.block g hg hl)⟩
theorem KeepM.of (h:Below w.heap.size w w'):KeepM gm w w':=⟨h.os,h.tape,h.output,h.size,fun g _ hl=>h.block g hl⟩
theorem KeepM.alloc (h:KeepM gm w w') (o:Obj):KeepM gm w (w'.alloc o):=h.trans (KeepM.of (below_alloc _ _))
theorem KeepM.drewN (h:KeepM gm w w') (n:Nat):KeepM gm w (w'.drewN n):=⟨h.os,h.tape,h.output,h.size,h.block⟩
theorem KeepM.setCell (h:KeepM gm w w') {p:Addr} (hp:w.heap.size≤p.block) (u:Value):KeepM gm w (w'.setCell p u):=
 ⟨h.os,h.tape,h.output,by simp [World.setCell];exact h.size,fun g hg hl=>(heap_setCell_other _ _ _ _ (by omega)).trans (h.block g hg hl)⟩
theorem KeepM.below (h:KeepM gm w w') (hm:gm≤w.heap.size):Below gm w w':=⟨h.os,h.tape,h.output,h.size,fun g hg=>h.block g (by omega) (by omega)⟩
theorem BlkIs.keepM {g:Nat} {t:TypeId} {cs:Array Value} (h:BlkIs w g t cs) (hk:KeepM gm w w') (hg:g ≠ gm):BlkIs w' g t cs:=(hk.block g hg h.lt).trans h
theorem Rep.keepM {ok:Nat→Prop} {d:D} {cs:List Value} (h:Rep w ok d cs) (hk:KeepM gm w w') (hok:∀ g,ok g→g ≠ gm):Rep w' ok d cs:=Rep.keep (fun _ h _=>h) (fun g hg hl=>hk.block g (hok g hg) hl) d cs h
end
theorem KeepM.ownRow {gm:Nat} {w w':World} (h:KeepM gm w w') (cs:Array Value):KeepM gm w (w'.setRow gm cs):=
 ⟨h.os,h.tape,h.output,by simp;exact h.size,fun k hk hl=>(setRow_other w' gm k cs hk).trans (h.block k hk hl)⟩
theorem KeepM.own {gm:Nat} {w w':World} (h:KeepM gm w w') (i:Nat) (u:Value):KeepM gm w (w'.setCell ⟨gm,i,none⟩ u):=
 ⟨h.os,h.tape,h.output,by simp [World.setCell];exact h.size,fun k hk hl=>(heap_setCell_other _ _ _ _ (by simpa using hk)).trans (h.block k hk hl)⟩
theorem BlkIs.fresh_at {w:World} {g:Nat} {cs:Array Value} {t:TypeId} (h:g=w.heap.size):BlkIs (w.alloc (.cells cs t)) g t cs:=by subst h;exact BlkIs.fresh _ _ _
end Go.Proofs.YtdmacgoeikjdbaaGreatDoor
namespace Go.Proofs.YtdmacgoeikjdbaaGreatDoor
open Go.RowKit
def Texts (w:World) (A:Option Addr) (n:Nat) (ss:List ByteArray):Prop:=
 0<n→∃ b off,A=some ⟨b,off,none⟩∧b<w.heap.size∧∀ j,j<n→w.cell? ⟨b,off + j,none⟩=some (.string (ss.getD j ByteArray.empty))∧(ss.getD j ByteArray.empty).size≤9223372036854775807
def SomeBool (w:World) (e:Ending) (w':World):Prop:=∃ b:Bool,e=.returned (.bool b)∧w=w'
theorem heavy_any (n:Nat) (A:Option Addr) (c:Nat) (ss:List ByteArray) (w:World) (hl:n≤9223372036854775807) (hA:Texts w A n ss) :
  Calls Tryz.prog 5 #[.slice A n c] w (SomeBool w):=by
 go_enter Tryz.func5,Tryz.ntmps5
 go_wp2_with fail
 go_loop [3,4] (fun x i=>∃ (k:Nat) (y:Int),k≤n∧i=.int .i64 k∧x=.int .i64 y) (fun _ i=>n - (intOf i).toNat)
 case atStart=>exact ⟨0,_,by omega,rfl,rfl⟩
 case round=>
  obtain ⟨k,y,hk,rfl,rfl⟩:=hrel
  by_cases hlt:k<n
  ·obtain ⟨b,off,rfl,hbl,hc⟩:=hA (by omega)
   have hck:=(hc k hlt).1
   clear hc hA
   by_cases hy:y<1048576
   ·go_wp2_with fail
    go_round
    case rel=>exact ⟨k + 1,_,by omega,by go_num,rfl⟩
    case measure=>simp [intOf];omega
   ·go_wp2_with fail
    go_ret
    exact ⟨_,rfl,rfl⟩
  ·obtain rfl:k=n:=by omega
   go_wp2_with fail
   go_ret
   exact ⟨_,rfl,rfl⟩
end Go.Proofs.YtdmacgoeikjdbaaGreatDoor

/- Data as it lies in memory: numbers, texts, structs, slices of these, h -/
import Derived.Test.YtdmacgoeikjdbaaGreatDoorL01
import Derived.Maps.AppendAt
import Derived.Laws.Tables
import Derived.Test.YtdmacgoeikjdbaaGreatDoorL02
import Derived.Outline
import Derived.Shelf.Small.Strs
import Derived.Shelf.Small.Wraps
import Derived.Shelf.Strings.Search1
import Derived.Shelf.Strings.Search2
import Derived.Shelf.Strings.Search3
import Derived.Shelf.LaysM
import Derived.Shelf.Strings.Shaped
import Derived.Shelf.Strings.Prefix
import Derived.Shelf.Strings.Fields
import Derived.Shelf.Slices.Turned
import Derived.Test.YtdmacgoeikjdbaaGreatDoorProg
set_option linter.unusedSimpArgs false
set_option linter.unusedVariables false
set_option maxHeartbeats 1000000
namespace Go.Proofs.YtdmacgoeikjdbaaGreatDoor
open Go.RowKit
inductive D where
 | int (k:IntKind) (n:Int)
 | bool (b:Bool)
 | str (s:List UInt8)
 | st (fs:List D)
 | lst (z:Nat) (xs:List D)
abbrev Thawed:={p:Nat × Nat // p=(0,0)}
def thawed:Thawed:=⟨(0,0),rfl⟩
mutual
def Rep (w:World) (ok:Nat→Prop):D→List Value→Prop
 | .int k n,cs=>cs=[.int k n]
 | .bool b,cs=>cs=[.bool b]
 | .str s,cs=>cs=[.string ⟨s.toArray⟩]
 | .st fs,cs=>RepAll w ok fs cs
 | .lst z xs,cs=>∃ (A:Option Addr) (c:Nat),cs=[.slice A xs.length c]∧xs.length≤c∧c≤maxLen ∧
   (0<xs.length→∃ (g off:Nat) (cur:Array Value) (t:TypeId) (fr:Thawed),A=some ⟨g,off,none⟩∧ok g∧w.heap[g]?=some (.cells cur t fr.1)∧RepRow w ok z xs (cur.toList.drop off))
def RepAll (w:World) (ok:Nat→Prop):List D→List Value→Prop
 | [],cs=>cs=[]
 | d :: ds,cs=>∃ a b:List Value,cs=a ++ b∧Rep w ok d a∧RepAll w ok ds b
def RepRow (w:World) (ok:Nat→Prop) (z:Nat):List D→List Value→Prop
 | [],_=>True
 | d :: ds,cs=>∃ a b:List Value,cs=a ++ b∧a.length=z∧Rep w ok d a∧RepRow w ok z ds b
end
mutual
theorem Rep.keep {w w':World} {ok ok':Nat→Prop} (hk:∀ g,ok g→g<w.heap.size→ok' g) (h:∀ g,ok g→g<w.heap.size→w'.heap[g]?=w.heap[g]?):∀ (d:D) (cs:List Value),Rep w ok d cs→Rep w' ok' d cs
 | .int _ _,_,hr=>by unfold Rep at hr ⊢;exact hr
 | .bool _,_,hr=>by unfold Rep at hr ⊢;exact hr
 | .str _,_,hr=>by unfold Rep at hr ⊢;exact hr
 | .st fs,cs,hr=>by unfold Rep at hr ⊢;exact RepAll.keep hk h fs cs hr
 | .lst z xs,cs,hr=>by
  unfold Rep at hr ⊢
  obtain ⟨A,c,hcs,hc,hm,hr⟩:=hr
  refine ⟨A,c,hcs,hc,hm,fun hn=>?_⟩
  obtain ⟨g,off,cur,t,fr,hA,hok,hg,hrow⟩:=hr hn
  exact ⟨g,off,cur,t,fr,hA,hk g hok (lt_of_block hg),(h g hok (lt_of_block hg)).trans hg,RepRow.keep hk h z xs _ hrow⟩
theorem RepAll.keep {w w':World} {ok ok':Nat→Prop} (hk:∀ g,ok g→g<w.heap.size→ok' g) (h:∀ g,ok g→g<w.heap.size→w'.heap[g]?=w.heap[g]?):∀ (ds:List D) (cs:List Value),RepAll w ok ds cs→RepAll w' ok' ds cs
 | [],_,hr=>by unfold RepAll at hr ⊢;exact hr
 | d :: ds,cs,hr=>by
  unfold RepAll at hr ⊢
  obtain ⟨a,b,hcs,h1,h2⟩:=hr
  exact ⟨a,b,hcs,Rep.keep hk h d a h1,RepAll.keep hk h ds b h2⟩
theorem RepRow.keep {w w':World} {ok ok':Nat→Prop} (hk:∀ g,ok g→g<w.heap.size→ok' g) (h:∀ g,ok g→g<w.heap.size→w'.heap[g]?=w.heap[g]?) (z:Nat):∀ (ds:List D) (cs:List Value),RepRow w ok z ds cs→RepRow w' ok' z ds cs
 | [],_,_=>by unfold RepRow;exact trivial
 | d :: ds,cs,hr=>by
  unfold RepRow at hr ⊢
  obtain ⟨a,b,hcs,hl,h1,h2⟩:=hr
  exact ⟨a,b,hcs,hl,Rep.keep hk h d a h1,RepRow.keep hk h z ds b h2⟩
end
section
variable {w w':World} {ok:Nat→Prop} {d:D} {cs:List Value}
theorem Rep.any (h:Rep w ok d cs):Rep w (fun _=>True) d cs:=Rep.keep (fun _ _ _=>trivial) (fun _ _ _=>rfl) d cs h
theorem Rep.below (h:Rep w ok d cs) (hb:Below w.heap.size w w'):Rep w' ok d cs:=Rep.keep (fun _ h _=>h) (fun g _ hg=>hb.block g hg) d cs h
theorem Rep.drew (h:Rep w ok d cs):Rep w.drew ok d cs:=Rep.keep (w:=w) (w':=w.drew) (fun _ h _=>h) (fun _ _ _=>rfl) d cs h
theorem Rep.imp {ok':Nat→Prop} (h:Rep w ok d cs) (hk:∀ g,ok g→g<w.heap.size→ok' g):Rep w ok' d cs:=Rep.keep hk (fun _ _ _=>rfl) d cs h
end
theorem RepRow.at_ {w:World} {ok:Nat→Prop} {z:Nat}:∀ (ds:List D) (cs:List Value) (k:Nat) (hk:k<ds.length),RepRow w ok z ds cs→∃ a:List Value,a.length=z∧Rep w ok ds[k] a∧∀ j,j<z→cs[k * z + j]?=a[j]?
 | d :: ds,cs,0,_,hr=>by
  unfold RepRow at hr
  obtain ⟨a,b,rfl,hl,h1,_⟩:=hr
  refine ⟨a,hl,h1,fun j hj=>?_⟩
  rw [Nat.zero_mul,Nat.zero_add,List.getElem?_append_left (by omega)]
 | d :: ds,cs,k + 1,hk,hr=>by
  unfold RepRow at hr
  obtain ⟨a,b,rfl,hl,_,h2⟩:=hr
  obtain ⟨a',h3,h4,h5⟩:=RepRow.at_ ds b k (by simpa using hk) h2
  refine ⟨a',h3,h4,fun j hj=>?_⟩
  rw [List.getElem?_append_right (by rw [hl,Nat.add_mul];omega),← h5 j hj]
  congr 1
  rw [hl,Nat.add_mul];omega
theorem Rep.at_ {w:World} {ok:Nat→Prop} {z:Nat} {xs:List D} {A:Option Addr} {n c:Nat} (h:Rep w ok (.lst z xs) [.slice A n c]) (k:Nat) (hk:k<xs.length) :
  ∃ (g off:Nat) (a:List Value),A=some ⟨g,off,none⟩∧ok g∧g<w.heap.size∧a.length=z∧Rep w ok xs[k] a∧∀ j,j<z→w.cell? ⟨g,off + (k * z + j),none⟩=a[j]?:=by
 unfold Rep at h
 obtain ⟨A',c',he,_,_,h⟩:=h
 injection he with he _
 injection he with hA _ _
 subst hA
 obtain ⟨g,off,cur,t,fr,hA,hok,hg,hrow⟩:=h (by omega)
 obtain ⟨a,h1,h2,h3⟩:=RepRow.at_ xs _ k hk hrow
 refine ⟨g,off,a,hA,hok,lt_of_block hg,h1,h2,fun j hj=>?_⟩
 rw [cell_of_row w g _ cur t fr hg,← h3 j hj,List.getElem?_drop]
 simp
theorem Rep.len {w:World} {ok:Nat→Prop} {z:Nat} {xs:List D} {v:Value} (h:Rep w ok (.lst z xs) [v]):∃ (A:Option Addr) (c:Nat),v=.slice A xs.length c∧xs.length≤c∧c≤maxLen:=by
 unfold Rep at h
 obtain ⟨A,c,he,hc,hm,_⟩:=h
 injection he with he _
 exact ⟨A,c,he,hc,hm⟩
def Cells (w:World) (ok:Nat→Prop) (z:Nat):List D→List Value→Prop
 | [],cs=>cs=[]
 | d :: ds,cs=>∃ a b:List Value,cs=a ++ b∧a.length=z∧Rep w ok d a∧Cells w ok z ds b
theorem Cells.row {w:World} {ok:Nat→Prop} {z:Nat} (m:List Value):∀ {ds:List D} {cs:List Value},Cells w ok z ds cs→RepRow w ok z ds (cs ++ m)
 | [],_,_=>by unfold RepRow;exact trivial
 | d :: ds,cs,h=>by
  obtain ⟨a,b,rfl,hl,h1,h2⟩:=h
  unfold RepRow
  exact ⟨a,b ++ m,by rw [List.append_assoc],hl,h1,Cells.row m h2⟩
theorem Cells.keep {w w':World} {ok ok':Nat→Prop} {z:Nat} (hk:∀ g,ok g→g<w.heap.size→ok' g) (h:∀ g,ok g→g<w.heap.size→w'.heap[g]?=w.heap[g]?):∀ {ds:List D} {cs:List Value},Cells w ok z ds cs→Cells w' ok' z ds cs
 | [],_,hr=>hr
 | d :: ds,cs,hr=>by
  obtain ⟨a,b,hcs,hl,h1,h2⟩:=hr
  exact ⟨a,b,hcs,hl,Rep.keep hk h d a h1,Cells.keep hk h h2⟩
theorem Cells.snoc {w:World} {ok:Nat→Prop} {z:Nat} {d:D} {c:List Value} (hl:c.length=z) (hd:Rep w ok d c):∀ {ds:List D} {cs:List Value},Cells w ok z ds cs→Cells w ok z (ds ++ [d]) (cs ++ c)
 | [],cs,h=>by
  have h:cs=[]:=h
  subst h
  exact ⟨c,[],by simp,hl,hd,rfl⟩
 | e :: ds,cs,h=>by
  obtain ⟨a,b,rfl,h1,h2,h3⟩:=h
  exact ⟨a,b ++ c,by rw [List.append_assoc],h1,h2,Cells.snoc hl hd h3⟩
def Own (w:World) (B:Nat) (ok:Nat→Prop) (e:TypeId) (z:Nat) (v:Value) (ds:List D):Prop:=
 ∃ xs:List Value,w.ownsRow B e z v ds.length xs∧Cells w (fun g=>ok g∧some g ≠ v.ownBlock) z ds xs
theorem Own.nil (w:World) (B:Nat) (ok:Nat→Prop) (e:TypeId) (z:Nat):Own w B ok e z (.slice none 0 0) []:=⟨[],⟨by simp,.inl ⟨rfl,rfl⟩⟩,rfl⟩
section
variable {w w':World} {B:Nat} {ok:Nat→Prop} {e:TypeId} {z:Nat} {v:Value} {ds:List D}
theorem Own.keep (h:Own w B ok e z v ds) (hk:∀ g,g<w.heap.size→w'.heap[g]?=w.heap[g]?):Own w' B ok e z v ds:=by
 obtain ⟨xs,h1,h2⟩:=h
 refine ⟨xs,⟨h1.1,?_⟩,Cells.keep (fun _ h _=>h) (fun g _ hg=>hk g hg) h2⟩
 rcases h1.2 with h3 | ⟨g,cap,cur,hv,hb,hh,hr⟩
 ·exact .inl h3
 ·exact .inr ⟨g,cap,cur,hv,hb,(hk g (lt_of_block hh)).trans hh,hr⟩
theorem Own.imp {ok':Nat→Prop} (h:Own w B ok e z v ds) (hk:∀ g,ok g→g<w.heap.size→ok' g):Own w B ok' e z v ds:=by
 obtain ⟨xs,h1,h2⟩:=h
 exact ⟨xs,h1,Cells.keep (fun g hg hl=>⟨hk g hg.1 hl,hg.2⟩) (fun _ _ _=>rfl) h2⟩
end
theorem Cells.length {w:World} {ok:Nat→Prop} {z:Nat}:∀ {ds:List D} {cs:List Value},Cells w ok z ds cs→cs.length=ds.length * z
 | [],cs,h=>by
  have h:cs=[]:=h
  simp [h]
 | d :: ds,cs,h=>by
  obtain ⟨a,b,rfl,hl,_,h2⟩:=h
  have:=Cells.length h2
  simp only [List.length_append,List.length_cons,hl,this,Nat.add_mul]
  omega
theorem Own.fresh {w:World} {B:Nat} {ok:Nat→Prop} {e:TypeId} {z:Nat} {ds:List D} {cs:List Value} (hc:Cells w ok z ds cs) (hB:B≤w.heap.size) (hn:ds.length≤maxLen) {g n:Nat} (hg:g=w.heap.size) (hl:n=ds.length) :
  Own (w.alloc (.cells cs.toArray e)) B ok e z (.slice (some ⟨g,0,none⟩) n n) ds:=by
 subst hg hl
 have hlen:=hc.length
 refine ⟨cs,⟨hlen,.inr ⟨w.heap.size,ds.length,cs.toArray,rfl,hB,heap_alloc_new w _,Nat.le_refl _,hn,by simpa using hlen,?_⟩⟩,?_⟩
 ·rw [← hlen];simp
 ·refine Cells.keep (fun g hok hg=>⟨hok,?_⟩) (fun g _ hg=>Below.heap_alloc w _ g hg) hc
  intro h
  have:g=w.heap.size:=by simpa [Value.ownBlock] using h
  omega
mutual
theorem Rep.one {w:World} {ok:Nat→Prop}:∀ (d:D) (cs:List Value),Rep w ok d cs→∀ u ∈ cs,u.oneCell'=true
 | .int _ _,_,hr=>by unfold Rep at hr;subst hr;simp [Value.oneCell']
 | .bool _,_,hr=>by unfold Rep at hr;subst hr;simp [Value.oneCell']
 | .str _,_,hr=>by unfold Rep at hr;subst hr;simp [Value.oneCell']
 | .st fs,cs,hr=>by unfold Rep at hr;exact RepAll.one fs cs hr
 | .lst z xs,cs,hr=>by
  unfold Rep at hr
  obtain ⟨A,c,rfl,_⟩:=hr
  simp [Value.oneCell']
theorem RepAll.one {w:World} {ok:Nat→Prop}:∀ (ds:List D) (cs:List Value),RepAll w ok ds cs→∀ u ∈ cs,u.oneCell'=true
 | [],_,hr=>by unfold RepAll at hr;subst hr;simp
 | d :: ds,cs,hr=>by
  unfold RepAll at hr
  obtain ⟨a,b,rfl,h1,h2⟩:=hr
  intro u hu
  rcases List.mem_append.1 hu with hu | hu
  ·exact Rep.one d a h1 u hu
  ·exact RepAll.one ds b h2 u hu
end
theorem Cells.one {w:World} {ok:Nat→Prop} {z:Nat}:∀ {ds:List D} {cs:List Value},Cells w ok z ds cs→∀ u ∈ cs,u.oneCell'=true
 | [],cs,h=>by
  have h:cs=[]:=h
  subst h;simp
 | d :: ds,cs,h=>by
  obtain ⟨a,b,rfl,_,h1,h2⟩:=h
  intro u hu
  rcases List.mem_append.1 hu with hu | hu
  ·exact Rep.one d a h1 u hu
  ·exact Cells.one h2 u hu
theorem Cells.append {w:World} {ok:Nat→Prop} {z:Nat} {es:List D} {ys:List Value} (h:Cells w ok z es ys):∀ {ds:List D} {cs:List Value},Cells w ok z ds cs→Cells w ok z (ds ++ es) (cs ++ ys)
 | [],cs,h0=>by
  have h0:cs=[]:=h0
  subst h0;simpa using h
 | d :: ds,cs,h0=>by
  obtain ⟨a,b,rfl,h1,h2,h3⟩:=h0
  exact ⟨a,b ++ ys,by rw [List.append_assoc],h1,h2,Cells.append h h3⟩
end Go.Proofs.YtdmacgoeikjdbaaGreatDoor
namespace Go.Proofs.YtdmacgoeikjdbaaGreatDoor
open Go.RowKit
structure KeepM (gm:Nat) (w w':World):Prop where
 os:w'.os=w.os
 tape:w'.tape=w.tape
 output:w'.output=w.output
 size:w.heap.size≤w'.heap.size
 block:∀ g,g ≠ gm→g<w.heap.size→w'.heap[g]?=w.heap[g]?
section
variable {gm:Nat} {w w' w2:World}
theorem KeepM.refl (gm:Nat) (w:World):KeepM gm w w:=⟨rfl,rfl,rfl,Nat.le_refl _,fun _ _ _=>rfl⟩
theorem KeepM.trans (h:KeepM gm w w') (k:KeepM gm w' w2):KeepM gm w w2:=
 ⟨k.os.trans h.os,k.tape.trans h.tape,k.output.trans h.output,Nat.le_trans h.size k.size,fun g hg hl=>(k.block g hg (Nat.lt_of_lt_of_le hl h.size)).trans (h.block g hg hl)⟩
theorem KeepM.of (h:Below w.heap.size w w'):KeepM gm w w':=⟨h.os,h.tape,h.output,h.size,fun g _ hl=>h.block g hl⟩
theorem KeepM.alloc (h:KeepM gm w w') (o:Obj):KeepM gm w (w'.alloc o):=h.trans (KeepM.of (below_alloc _ _))
theorem KeepM.setCell (h:KeepM gm w w') {p:Addr} (hp:w.heap.size≤p.block) (u:Value):KeepM gm w (w'.setCell p u):=
 ⟨h.os,h.tape,h.output,by simp [World.setCell];exact h.size,fun g hg hl=>(heap_setCell_other _ _ _ _ (by omega)).trans (h.block g hg hl)⟩
theorem KeepM.below (h:KeepM gm w w') (hm:gm≤w.heap.size):Below gm w w':=⟨h.os,h.tape,h.output,h.size,fun g hg=>h.block g (by omega) (by omega)⟩
theorem BlkIs.keepM {g:Nat} {t:TypeId} {cs:Array Value} (h:BlkIs w g t cs) (hk:KeepM gm w w') (hg:g ≠ gm):BlkIs w' g t cs:=(hk.block g hg h.lt).trans h
end
theorem KeepM.own {gm:Nat} {w w':World} (h:KeepM gm w w') (i:Nat) (u:Value):KeepM gm w (w'.setCell ⟨gm,i,none⟩ u):=
 ⟨h.os,h.tape,h.output,by simp [World.setCell];exact h.size,fun k hk hl=>(heap_setCell_other _ _ _ _ (by simpa using hk)).trans (h.block k hk hl)⟩
theorem BlkIs.fresh_at {w:World} {g:Nat} {cs:Array Value} {t:TypeId} (h:g=w.heap.size):BlkIs (w.alloc (.cells cs t)) g t cs:=by subst h;exact BlkIs.fresh _ _ _
end Go.Proofs.YtdmacgoeikjdbaaGreatDoor
namespace Go.Proofs.YtdmacgoeikjdbaaGreatDoor
open Go.RowKit
def Texts (w:World) (A:Option Addr) (n:Nat) (ss:List ByteArray):Prop:=
 0<n→∃ b off,A=some ⟨b,off,none⟩∧b<w.heap.size∧∀ j,j<n→w.cell? ⟨b,off + j,none⟩=some (.string (ss.getD j ByteArray.empty))∧(ss.getD j ByteArray.empty).size≤9223372036854775807
def SomeBool (w:World) (e:Ending) (w':World):Prop:=∃ b:Bool,e=.returned (.bool b)∧w=w'
theorem heavy_any (n:Nat) (A:Option Addr) (c:Nat) (ss:List ByteArray) (w:World) (hl:n≤9223372036854775807) (hA:Texts w A n ss) :
  Calls Tryz.prog 5 #[.slice A n c] w (SomeBool w):=by
 go_enter Tryz.func5,Tryz.ntmps5
 go_wp2_with fail
 go_loop [3,4] (fun x i=>∃ (k:Nat) (y:Int),k≤n∧i=.int .i64 k∧x=.int .i64 y) (fun _ i=>n - (intOf i).toNat)
 case atStart=>exact ⟨0,_,by omega,rfl,rfl⟩
 case round=>
  obtain ⟨k,y,hk,rfl,rfl⟩:=hrel
  by_cases hlt:k<n
  ·obtain ⟨b,off,rfl,hbl,hc⟩:=hA (by omega)
   have hck:=(hc k hlt).1
   clear hc hA
   by_cases hy:y<1048576
   ·go_wp2_with fail
    go_round
    case rel=>exact ⟨k + 1,_,by omega,by go_num,rfl⟩
    case measure=>simp [intOf];omega
   ·go_wp2_with fail
    go_ret
    exact ⟨_,rfl,rfl⟩
  ·obtain rfl:k=n:=by omega
   go_wp2_with fail
   go_ret
   exact ⟨_,rfl,rfl⟩
end Go.Proofs.YtdmacgoeikjdbaaGreatDoor
namespace Go.Proofs.YtdmacgoeikjdbaaGreatDoor
open Go.RowKit
theorem number_any (s:ByteArray) (hs:s.size≤100000) (w:World) :
  Calls Tryz.prog 60 #[.string s] w fun e w'=>e=.returned (.tuple #[(numberL s.data.toList).1,.int .i64 (numberL s.data.toList).2.1,.int .i64 (numberL s.data.toList).2.2])∧Below w.heap.size w w':=by
 have hle:rl isDigit s.data.toList≤s.size:=by have:=rl_le isDigit s.data.toList;simpa using this
 go_enter Tryz.func60,Tryz.ntmps60
 go_wp2_with (go_at_call 23;refine (runDigit _ (by omega) _).mono ?_;rintro e w' ⟨rfl,rfl⟩)
 go_loop [6,7,8,12] (fun x i d c=>∃ (k:Nat) (y:Int),k≤rl isDigit s.data.toList∧0≤y∧y≤9223372036854775807∧c=.int .i64 k∧x=.int .i64 y∧Hid (numFold ((digits s.data.toList).drop k) y=numFold (digits s.data.toList) 0)) (fun _ _ _ c=>rl isDigit s.data.toList - (intOf c).toNat)
 case atStart=>exact ⟨0,0,by omega,by omega,by omega,rfl,rfl,Lib.hid (by simp)⟩
 case round=>
  obtain ⟨k,y,hk,hy0,hy1,rfl,rfl,hr⟩:=hrel
  by_cases hlt:k<rl isDigit s.data.toList
  ·have hks:k<s.size:=by omega
   have hd:=Lib.hid (digits_drop s.data.toList k hlt (by simpa using hks))
   have hp:=rl_at isDigit s.data.toList k hlt (by simpa using hks)
   have h48:48≤(s[k].toNat:Int)∧(s[k].toNat:Int)≤57:=by
    have:isDigit (s[k].toNat)=true:=hp
    simp [isDigit] at this;omega
   obtain ⟨h48,h57⟩:=h48
   clear hp
   have hN:numFold ((digits s.data.toList).drop k) y=if (9223372036854775807 - ((s[k].toNat:Int) - 48)) / 10<y then none else numFold ((digits s.data.toList).drop (k + 1)) (10 * y + ((s[k].toNat:Int) - 48)):=by rw [hd.out];rfl
   have hN:=Lib.hid hN
   by_cases hb:(9223372036854775807 - ((s[k].toNat:Int) - 48)) / 10<y
   ·have HE:Hid (numFold (digits s.data.toList) 0=none):=by
     have:=hN.out;rw [if_pos hb] at this;exact Lib.hid (hr.out.symm.trans this)
    go_wp2_with fail
    refine bodyPost_ret (v:=.tuple #[noTok,.int .i64 0,.int .i64 10]) (by simp [results,Tryz.results60,go_sem,noTok,tokVal]) rfl ⟨?_,(Below.refl _ _).alloc (Nat.le_refl _) _⟩
    have:numberL s.data.toList=(noTok,0,10):=by unfold numberL numberT;rw [HE.out];rfl
    rw [this]
   ·have hb':y≤(9223372036854775807 - ((s[k].toNat:Int) - 48)) / 10:=by omega
    go_wp2_with fail
    go_round
    case rel=>exact ⟨k + 1,_,by omega,by omega,by omega,by go_num,rfl,Lib.hid (by have:=hN.out;rw [if_neg hb] at this;exact this.symm.trans hr.out)⟩
    case measure=>simp [intOf];omega
  ·obtain rfl:k=rl isDigit s.data.toList:=by omega
   have HE:Hid (numFold (digits s.data.toList) 0=some y):=by
    have:=hr.out;rw [digits_end] at this;exact Lib.hid (this.symm.trans rfl)
   by_cases hm:rl isDigit s.data.toList<s.size
   ·have hg:Hid (s.data.toList.getD (rl isDigit s.data.toList) 0=s[rl isDigit s.data.toList]):=by
     refine Lib.hid ?_
     rw [List.getD_eq_getElem?_getD,List.getElem?_eq_getElem (by simpa using hm)];rfl
    go_wp2_with (go_at_call 57;refine (letterL_any _ _).mono ?_;rintro e w' ⟨rfl,rfl⟩)
    ·have hL:isLetter (s[rl isDigit s.data.toList].toNat)=true:=by assumption
     have HN:numberL s.data.toList=(noTok,0,3):=by
      unfold numberL numberT;rw [HE.out];simp only [];rw [hg.out,hL,if_pos (by simp;simpa using hm)];rfl
     refine bodyPost_ret (v:=.tuple #[noTok,.int .i64 0,.int .i64 3]) (by simp [results,Tryz.results60,go_sem,noTok,tokVal]) rfl ⟨?_,(Below.refl _ _).alloc (Nat.le_refl _) _⟩
     rw [HN]
    ·have hL:isLetter (s[rl isDigit s.data.toList].toNat)=false:=by assumption
     have HN:numberL s.data.toList=(tokVal 2 [] y 0,(rl isDigit s.data.toList:Int),0):=by
      unfold numberL numberT;rw [HE.out];simp only [];rw [hg.out,hL,if_neg (by simp)];rfl
     refine bodyPost_ret (v:=.tuple #[tokVal 2 [] y 0,.int .i64 (rl isDigit s.data.toList),.int .i64 0]) (by simp [results,Tryz.results60,go_sem,tokVal]) rfl ⟨?_,(Below.refl _ _).alloc (Nat.le_refl _) _⟩
     rw [HN]
   ·have HN:Hid (numberL s.data.toList=(tokVal 2 [] y 0,(rl isDigit s.data.toList:Int),0)):=by
     refine Lib.hid ?_
     unfold numberL numberT;rw [HE.out];simp only [];rw [if_neg (by simp;intro h;exact absurd (by simpa using h) hm)];rfl
    go_wp2_with fail
    refine bodyPost_ret (v:=.tuple #[tokVal 2 [] y 0,.int .i64 (rl isDigit s.data.toList),.int .i64 0]) (by simp [results,Tryz.results60,go_sem,tokVal]) rfl ⟨?_,(Below.refl _ _).alloc (Nat.le_refl _) _⟩
    rw [HN.out]
end Go.Proofs.YtdmacgoeikjdbaaGreatDoor
namespace Go.Proofs
open Go.Shelf
def Tryz.lays137_ren:Go.Shelf.Ren:=⟨fun | 137=>82 | 217=>97 | 266=>109 | n=>n,fun | 9=>9 | 5=>5 | 3=>3 | n=>n,fun | n=>n⟩
theorem Tryz.lays137:Go.Proofs.Lays.n137 Tryz.prog Tryz.lays137_ren:={
 mixed:=by kernel_rfl
 f137:=Tryz.func82.trans (congrArg some (by kernel_rfl))
 f217:=Tryz.func97.trans (congrArg some (by kernel_rfl))
 f266:=Tryz.func109.trans (congrArg some (by kernel_rfl))
 t3:=Tryz.underlying3
 a3:=Tryz.isAgg3
 z3:=Tryz.sizeOf3
 v3:=Tryz.zeroValue3
 t5:=Tryz.underlying5
 a5:=Tryz.isAgg5
 z5:=Tryz.sizeOf5
 v5:=Tryz.zeroValue5
 t9:=Tryz.underlying9
 a9:=Tryz.isAgg9
 z9:=Tryz.sizeOf9
 v9:=Tryz.zeroValue9 }
open Go.RowKit in
theorem Tryz.strings_IndexByte (s:ByteArray) (c:Int) (w:World) :
  Calls Tryz.prog 82 #[.string s,.int .u8 c] w fun e w'=>e=.returned (.int .i64 (Lib.indexByte s.data.toList c.toNat.toUInt8))∧w'=w:=Any.strings_IndexByte Tryz.lays137 s c w
def Tryz.lays104_ren:Go.Shelf.Ren:=⟨fun | 104=>113 | 211=>123 | 207=>135 | n=>n,fun | 9=>9 | 4=>4 | 24=>125 | 3=>3 | n=>n,fun | n=>n⟩
theorem Tryz.lays104:Go.Proofs.Lays.n104 Tryz.prog Tryz.lays104_ren:={
 mixed:=by kernel_rfl
 f104:=Tryz.func113.trans (congrArg some (by kernel_rfl))
 f207:=Tryz.func135.trans (congrArg some (by kernel_rfl))
 f211:=Tryz.func123.trans (congrArg some (by kernel_rfl))
 t3:=Tryz.underlying3
 a3:=Tryz.isAgg3
 z3:=Tryz.sizeOf3
 v3:=Tryz.zeroValue3
 t4:=Tryz.underlying4
 a4:=Tryz.isAgg4
 z4:=Tryz.sizeOf4
 v4:=Tryz.zeroValue4
 t9:=Tryz.underlying9
 a9:=Tryz.isAgg9
 z9:=Tryz.sizeOf9
 v9:=Tryz.zeroValue9
 t24:=Tryz.underlying125
 a24:=Tryz.isAgg125
 z24:=Tryz.sizeOf125
 v24:=Tryz.zeroValue125 }
open Go.RowKit in
theorem Tryz.strings_CutSuffix (s p:ByteArray) (w:World) (hs:s.size≤9223372036854775807) :
  Calls Tryz.prog 113 #[.string s,.string p] w fun e w'=>e=.returned (.tuple #[.string ⟨(Lib.trimSuffix s.data.toList p.data.toList).toArray⟩,.bool (Lib.hasSuffix s.data.toList p.data.toList)])∧w'=w:=Any.strings_CutSuffix Tryz.lays104 s p w hs
def Tryz.lays144_ren:Go.Shelf.Ren:=⟨fun | 144=>81 | 143=>96 | 219=>108 | 217=>97 | 225=>118 | 224=>119 | 267=>120 | 266=>109 | 314=>128 | n=>n,fun | 9=>9 | 4=>4 | 3=>3 | 5=>5 | 46=>130 | 146=>137 | 51=>136 | n=>n,fun | 1=>0 | n=>n⟩
theorem Tryz.lays144:Go.Proofs.Lays.n144 Tryz.prog Tryz.lays144_ren:={
 mixed:=by kernel_rfl
 f143:=Tryz.func96.trans (congrArg some (by kernel_rfl))
 f144:=Tryz.func81.trans (congrArg some (by kernel_rfl))
 f217:=Tryz.func97.trans (congrArg some (by kernel_rfl))
 f219:=Tryz.func108.trans (congrArg some (by kernel_rfl))
 f224:=Tryz.func119.trans (congrArg some (by kernel_rfl))
 f225:=Tryz.func118.trans (congrArg some (by kernel_rfl))
 f266:=Tryz.func109.trans (congrArg some (by kernel_rfl))
 f267:=Tryz.func120.trans (congrArg some (by kernel_rfl))
 f314:=Tryz.func128.trans (congrArg some (by kernel_rfl))
 t3:=Tryz.underlying3
 a3:=Tryz.isAgg3
 z3:=Tryz.sizeOf3
 v3:=Tryz.zeroValue3
 t4:=Tryz.underlying4
 a4:=Tryz.isAgg4
 z4:=Tryz.sizeOf4
 v4:=Tryz.zeroValue4
 t5:=Tryz.underlying5
 a5:=Tryz.isAgg5
 z5:=Tryz.sizeOf5
 v5:=Tryz.zeroValue5
 t9:=Tryz.underlying9
 a9:=Tryz.isAgg9
 z9:=Tryz.sizeOf9
 v9:=Tryz.zeroValue9
 t46:=Tryz.underlying130
 a46:=Tryz.isAgg130
 z46:=Tryz.sizeOf130
 v46:=Tryz.zeroValue130
 t51:=Tryz.underlying136
 a51:=Tryz.isAgg136
 z51:=Tryz.sizeOf136
 v51:=Tryz.zeroValue136
 t146:=Tryz.underlying137
 a146:=Tryz.isAgg137
 z146:=Tryz.sizeOf137
 v146:=Tryz.zeroValue137
 g1:=by kernel_rfl }
open Go.RowKit Go.Lib in
theorem Tryz.strings_Contains (s sub:ByteArray) (m:Int) (w:World) (hs:s.size<4294967281) (hm:w.cell? ⟨0,0,none⟩=some (.int .i64 m)) :
  Calls Tryz.prog 81 #[.string s,.string sub] w fun e w'=>e=.returned (.bool (Lib.contains s.data.toList sub.data.toList))∧w'=w:=Any.strings_Contains Tryz.lays144 s sub m w hs hm
def Tryz.lays157_ren:Go.Shelf.Ren:=⟨fun | 157=>124 | 229=>136 | 199=>137 | 261=>141 | 311=>143 | 312=>144 | n=>n,fun | 9=>9 | 31=>22 | 3=>3 | 5=>5 | 4=>4 | 119=>142 | 0=>0 | 40=>144 | 152=>148 | 21=>21 | 154=>150 | 51=>136 | 141=>152 | 196=>156 | 193=>153 | 198=>159 | 49=>157 | 194=>154 | 201=>162 | 226=>164 | 46=>130 | 227=>165 | n=>n,fun | 0=>1 | 6=>2 | n=>n⟩
theorem Tryz.lays157:Go.Proofs.Lays.n157 Tryz.prog Tryz.lays157_ren:={
 mixed:=by kernel_rfl
 f157:=Tryz.func124.trans (congrArg some (by kernel_rfl))
 f199:=Tryz.func137.trans (congrArg some (by kernel_rfl))
 f229:=Tryz.func136.trans (congrArg some (by kernel_rfl))
 f261:=Tryz.func141.trans (congrArg some (by kernel_rfl))
 f311:=Tryz.func143.trans (congrArg some (by kernel_rfl))
 f312:=Tryz.func144.trans (congrArg some (by kernel_rfl))
 t0:=Tryz.underlying0
 a0:=Tryz.isAgg0
 z0:=Tryz.sizeOf0
 v0:=Tryz.zeroValue0
 t3:=Tryz.underlying3
 a3:=Tryz.isAgg3
 z3:=Tryz.sizeOf3
 v3:=Tryz.zeroValue3
 t4:=Tryz.underlying4
 a4:=Tryz.isAgg4
 z4:=Tryz.sizeOf4
 v4:=Tryz.zeroValue4
 t5:=Tryz.underlying5
 a5:=Tryz.isAgg5
 z5:=Tryz.sizeOf5
 v5:=Tryz.zeroValue5
 t9:=Tryz.underlying9
 a9:=Tryz.isAgg9
 z9:=Tryz.sizeOf9
 v9:=Tryz.zeroValue9
 t21:=Tryz.underlying21
 a21:=Tryz.isAgg21
 z21:=Tryz.sizeOf21
 v21:=Tryz.zeroValue21
 t31:=Tryz.underlying22
 a31:=Tryz.isAgg22
 z31:=Tryz.sizeOf22
 v31:=Tryz.zeroValue22
 t40:=Tryz.underlying144
 a40:=Tryz.isAgg144
 z40:=Tryz.sizeOf144
 v40:=Tryz.zeroValue144
 t46:=Tryz.underlying130
 a46:=Tryz.isAgg130
 z46:=Tryz.sizeOf130
 v46:=Tryz.zeroValue130
 t49:=Tryz.underlying157
 a49:=Tryz.isAgg157
 z49:=Tryz.sizeOf157
 v49:=Tryz.zeroValue157
 t51:=Tryz.underlying136
 a51:=Tryz.isAgg136
 z51:=Tryz.sizeOf136
 v51:=Tryz.zeroValue136
 t119:=Tryz.underlying142
 a119:=Tryz.isAgg142
 z119:=Tryz.sizeOf142
 t141:=Tryz.underlying152
 a141:=Tryz.isAgg152
 z141:=Tryz.sizeOf152
 v141:=Tryz.zeroValue152
 t152:=Tryz.underlying148
 a152:=Tryz.isAgg148
 z152:=Tryz.sizeOf148
 v152:=Tryz.zeroValue148
 t154:=Tryz.underlying150
 a154:=Tryz.isAgg150
 z154:=Tryz.sizeOf150
 v154:=Tryz.zeroValue150
 t193:=Tryz.underlying153
 a193:=Tryz.isAgg153
 z193:=Tryz.sizeOf153
 v193:=Tryz.zeroValue153
 t194:=Tryz.underlying154
 a194:=Tryz.isAgg154
 z194:=Tryz.sizeOf154
 v194:=Tryz.zeroValue154
 t196:=Tryz.underlying156
 a196:=Tryz.isAgg156
 z196:=Tryz.sizeOf156
 v196:=Tryz.zeroValue156
 t198:=Tryz.underlying159
 a198:=Tryz.isAgg159
 z198:=Tryz.sizeOf159
 v198:=Tryz.zeroValue159
 t201:=Tryz.underlying162
 a201:=Tryz.isAgg162
 z201:=Tryz.sizeOf162
 v201:=Tryz.zeroValue162
 t226:=Tryz.underlying164
 a226:=Tryz.isAgg164
 z226:=Tryz.sizeOf164
 v226:=Tryz.zeroValue164
 t227:=Tryz.underlying165
 a227:=Tryz.isAgg165
 z227:=Tryz.sizeOf165
 v227:=Tryz.zeroValue165
 g0:=by kernel_rfl
 g6:=by kernel_rfl }
open Go.RowKit Go.Lib in
theorem Tryz.strings_Fields (s:ByteArray) (w:World) (hs:s.size<4294967281) (hascii:∀ (j:Nat) b,s.data.toList[j]?=some b→b.toNat<128) (htab:Lib.TabIs Tryz.prog w "strings.asciiSpace" .u8 Lib.asciiSpaceTab) :
  Calls Tryz.prog 124 #[.string s] w fun e w'=>
   e=.returned (.slice (some ⟨w.heap.size,0,none⟩) (Lib.fields s.data.toList).length (Lib.fields s.data.toList).length)∧w'=w.alloc (.cells ((Lib.fields s.data.toList).map fun l=>Value.string ⟨l.toArray⟩).toArray 9):=Any.strings_Fields Tryz.lays157 (by kernel_rfl) (by kernel_rfl) s w hs hascii htab
def Tryz.lays109_ren:Go.Shelf.Ren:=⟨fun | 109=>110 | n=>n,fun | 31=>22 | 9=>9 | 3=>3 | 0=>0 | 4=>4 | n=>n,fun | n=>n⟩
theorem Tryz.lays109:Go.Proofs.Lays.n109 Tryz.prog Tryz.lays109_ren:={
 mixed:=by kernel_rfl
 f109:=Tryz.func110.trans (congrArg some (by kernel_rfl))
 t0:=Tryz.underlying0
 a0:=Tryz.isAgg0
 z0:=Tryz.sizeOf0
 v0:=Tryz.zeroValue0
 t3:=Tryz.underlying3
 a3:=Tryz.isAgg3
 z3:=Tryz.sizeOf3
 v3:=Tryz.zeroValue3
 t4:=Tryz.underlying4
 a4:=Tryz.isAgg4
 z4:=Tryz.sizeOf4
 v4:=Tryz.zeroValue4
 t9:=Tryz.underlying9
 a9:=Tryz.isAgg9
 z9:=Tryz.sizeOf9
 v9:=Tryz.zeroValue9
 t31:=Tryz.underlying22
 a31:=Tryz.isAgg22
 z31:=Tryz.sizeOf22
 v31:=Tryz.zeroValue22 }
open Go.Lib in
theorem Tryz.slices_Index_string (b off n c:Nat) (zs:List ByteArray) (x:ByteArray) (w:World) (hz:n≤zs.length) (hbig:n≤9223372036854775807) (hc:∀ j,j<zs.length→w.cell? ⟨b,off + j,none⟩=some (.string (zs.getD j ByteArray.empty))) :
  Calls Tryz.prog 110 #[.slice (some ⟨b,off,none⟩) n c,.string x] w fun e w'=>e=.returned (.int .i64 (Lib.idxOfS (zs.take n) x))∧w'=w:=Any.slices_Index_string Tryz.lays109 b off n c zs x w hz hbig hc
def Tryz.lays110_ren:Go.Shelf.Ren:=⟨fun | 110=>98 | 109=>110 | n=>n,fun | 31=>22 | 9=>9 | 4=>4 | 3=>3 | 0=>0 | n=>n,fun | n=>n⟩
theorem Tryz.lays110:Go.Proofs.Lays.n110 Tryz.prog Tryz.lays110_ren:={
 mixed:=by kernel_rfl
 f109:=Tryz.func110.trans (congrArg some (by kernel_rfl))
 f110:=Tryz.func98.trans (congrArg some (by kernel_rfl))
 t0:=Tryz.underlying0
 a0:=Tryz.isAgg0
 z0:=Tryz.sizeOf0
 v0:=Tryz.zeroValue0
 t3:=Tryz.underlying3
 a3:=Tryz.isAgg3
 z3:=Tryz.sizeOf3
 v3:=Tryz.zeroValue3
 t4:=Tryz.underlying4
 a4:=Tryz.isAgg4
 z4:=Tryz.sizeOf4
 v4:=Tryz.zeroValue4
 t9:=Tryz.underlying9
 a9:=Tryz.isAgg9
 z9:=Tryz.sizeOf9
 v9:=Tryz.zeroValue9
 t31:=Tryz.underlying22
 a31:=Tryz.isAgg22
 z31:=Tryz.sizeOf22
 v31:=Tryz.zeroValue22 }
open Go.Lib in
theorem Tryz.slices_Contains_string (b off n c:Nat) (zs:List ByteArray) (x:ByteArray) (w:World) (hz:n≤zs.length) (hbig:n≤9223372036854775807) (hc:∀ j,j<zs.length→w.cell? ⟨b,off + j,none⟩=some (.string (zs.getD j ByteArray.empty))) :
  Calls Tryz.prog 98 #[.slice (some ⟨b,off,none⟩) n c,.string x] w fun e w'=>e=.returned (.bool (Lib.containsS (zs.take n) x))∧w'=w:=Any.slices_Contains_string Tryz.lays110 b off n c zs x w hz hbig hc
end Go.Proofs
namespace Go.Proofs.YtdmacgoeikjdbaaGreatDoor
open Go.RowKit
theorem name_any (s:ByteArray) (hs:s.size≤100000) (w:World) (m:Int) (hm:w.cell? ⟨0,0,none⟩=some (.int .i64 m)) (h0:0<w.heap.size) :
  Calls Tryz.prog 58 #[.string s] w fun e w'=>e=.returned (nameL s.data.toList)∧Below w.heap.size w w':=by
 have hle:rl (fun c=>isLetter c || isDigit c) s.data.toList≤s.size:=by have:=rl_le (fun c=>isLetter c || isDigit c) s.data.toList;simpa using this
 go_enter Tryz.func58,Tryz.ntmps58
 go_wp2_with (go_at_call 23;refine (runBoth _ (by omega) _).mono ?_;rintro e w' ⟨rfl,rfl⟩)
 refine (Tryz.strings_Contains _ _ m _ (by decide) (by rw [World.cell?_alloc_lt _ _ _ (by exact h0)];exact hm)).mono ?_
 rintro e w' ⟨rfl,rfl⟩
 go_wp2_with fail
 ·have hb:amid wordsB (s.data.toList.take (rl isBoth s.data.toList))=true:=by assumption
  refine bodyPost_ret (v:=nameL s.data.toList) (by simp only [nameL,nameT,Tok.val,hb,tokVal,← ext_take];simp [results,Tryz.results58,go_sem];rfl) rfl ⟨rfl,below_alloc _ _⟩
 ·have hb:amid wordsB (s.data.toList.take (rl isBoth s.data.toList))=false:=by assumption
  refine bodyPost_ret (v:=nameL s.data.toList) (by simp only [nameL,nameT,Tok.val,hb,tokVal,← ext_take];simp [results,Tryz.results58,go_sem];rfl) rfl ⟨rfl,below_alloc _ _⟩
theorem ret_ext {s:ByteArray} {k:Nat} {x:List UInt8} (h:x=s.data.toList.take k):Ending.returned (.string (s.extract 0 k))=.returned (.string ⟨x.toArray⟩):=by rw [h,ext_take]
theorem ret_none {x:List UInt8} (h:x=[]):Ending.returned (.string ⟨#[]⟩)=.returned (.string ⟨x.toArray⟩):=by rw [h]
theorem get0 (s:ByteArray) (h:0<s.size):s.data.toList.getD 0 0=s[0]:=by
 rw [List.getD_eq_getElem?_getD,List.getElem?_eq_getElem (by simpa using h)];rfl
theorem sign_any (s:ByteArray) (hs:s.size≤100000) (h1:0<s.size) (w:World) (m:Int) (hm:w.cell? ⟨0,0,none⟩=some (.int .i64 m)) :
  Calls Tryz.prog 61 #[.string s] w fun e w'=>e=.returned (.string ⟨(signL s.data.toList).toArray⟩)∧w=w':=by
 have hg:=Lib.hid (get0 s h1)
 have hl:Hid (s.data.toList.length=s.size):=Lib.hid (by simp)
 by_cases h3:3≤s.size
 ·have h2:2≤s.size:=by omega
  go_enter Tryz.func61,Tryz.ntmps61
  go_wp2_with (first | (go_at_call 81;refine (Tryz.strings_Contains _ _ m _ (by decide) hm).mono ?_;rintro e w' ⟨rfl,rfl⟩) | (go_at_call 82;refine (Tryz.strings_IndexByte _ _ _).mono ?_;rintro e w' ⟨rfl,rfl⟩))
  all_goals
   go_ret
   refine ⟨?_,rfl⟩
   first | refine ret_ext ?_ | refine ret_none ?_
   unfold signL amid threeB twoB oneB
   rw [hg.out,hl.out]
   simp [*]
   try omega
 ·by_cases h2:2≤s.size
  ·go_enter Tryz.func61,Tryz.ntmps61
   go_wp2_with (first | (go_at_call 81;refine (Tryz.strings_Contains _ _ m _ (by decide) hm).mono ?_;rintro e w' ⟨rfl,rfl⟩) | (go_at_call 82;refine (Tryz.strings_IndexByte _ _ _).mono ?_;rintro e w' ⟨rfl,rfl⟩))
   all_goals
    go_ret
    refine ⟨?_,rfl⟩
    first | refine ret_ext ?_ | refine ret_none ?_
    unfold signL amid threeB twoB oneB
    rw [hg.out,hl.out]
    simp [*]
    try omega
  ·have d3:decide ((3:Int)≤(s.size:Int))=false:=by simp;omega
   have d2:decide ((2:Int)≤(s.size:Int))=false:=by simp;omega
   go_enter Tryz.func61,Tryz.ntmps61
   go_wp2_with (first | (go_at_call 81;refine (Tryz.strings_Contains _ _ m _ (by decide) hm).mono ?_;rintro e w' ⟨rfl,rfl⟩) | (go_at_call 82;refine (Tryz.strings_IndexByte _ _ _).mono ?_;rintro e w' ⟨rfl,rfl⟩))
   all_goals
    go_ret
    refine ⟨?_,rfl⟩
    first | refine ret_ext ?_ | refine ret_none ?_
    unfold signL amid threeB twoB oneB
    rw [hg.out,hl.out]
    simp [*]
    try omega
end Go.Proofs.YtdmacgoeikjdbaaGreatDoor

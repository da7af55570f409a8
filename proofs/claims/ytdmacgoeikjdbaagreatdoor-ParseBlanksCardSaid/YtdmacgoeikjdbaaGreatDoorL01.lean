/- The small predicates on bytes: what each of them computes. How many by -/
import Derived.Test.YtdmacgoeikjdbaaGreatDoorProg
import Derived.WalkKit
import Derived.WalkSpells
import Derived.WalkLawsBesides
import Derived.BigGuardPart
import Derived.Lib.Hide
import Derived.Lib.IndexMore
import Derived.Lib.Strings
import Derived.Laws.OwnMore
import Derived.Outline
set_option linter.unusedSimpArgs false
set_option linter.unusedVariables false
set_option maxHeartbeats 400000
namespace Go.Proofs.YtdmacgoeikjdbaaGreatDoor
open Go.RowKit
def isBlank (c:Int):Bool:=c == 32 || c == 9 || c == 10 || c == 13
def isDigit (c:Int):Bool:=decide (48≤c) && decide (c≤57)
def isLetter (c:Int):Bool:=c == 95 || (decide (97≤c) && decide (c≤122)) || (decide (65≤c) && decide (c≤90))
theorem ret_bool {a b:Bool} (h:a=b):Ending.returned (.bool a)=.returned (.bool b):=by rw [h]
theorem blank_any (c:Int) (w:World) :
  Calls Tryz.prog 24 #[.int .u8 c] w fun e w'=>e=.returned (.bool (isBlank c))∧w=w':=by
 go_enter Tryz.func24,Tryz.ntmps24
 go_wp2
 all_goals
  go_ret
  refine ⟨ret_bool ?_,rfl⟩
  simp_all [isBlank]
theorem digitR_any (c:Int) (w:World) :
  Calls Tryz.prog 34 #[.int .u8 c] w fun e w'=>e=.returned (.bool (isDigit c))∧w=w':=by
 go_enter Tryz.func34,Tryz.ntmps34
 go_wp2
 all_goals
  go_ret
  refine ⟨ret_bool ?_,rfl⟩
  simp_all [isDigit] <;> omega
theorem digitL_any (c:Int) (w:World) :
  Calls Tryz.prog 59 #[.int .u8 c] w fun e w'=>e=.returned (.bool (isDigit c))∧w=w':=by
 go_enter Tryz.func59,Tryz.ntmps59
 go_wp2
 all_goals
  go_ret
  refine ⟨ret_bool ?_,rfl⟩
  simp_all [isDigit] <;> omega
theorem letterL_any (c:Int) (w:World) :
  Calls Tryz.prog 57 #[.int .u8 c] w fun e w'=>e=.returned (.bool (isLetter c))∧w=w':=by
 go_enter Tryz.func57,Tryz.ntmps57
 go_wp2
 all_goals
  go_ret
  refine ⟨ret_bool ?_,rfl⟩
  grind [isLetter]
theorem both_any (c:Int) (w:World) :
  Calls Tryz.prog 80 #[.int .u8 c] w fun e w'=>e=.returned (.bool (isLetter c || isDigit c))∧w=w':=by
 go_enter Tryz.func80,Tryz.ntmps80
 go_wp2_with (first | (go_at_call 57;refine (letterL_any _ _).mono ?_;rintro e w' ⟨rfl,rfl⟩) | (go_at_call 59;refine (digitL_any _ _).mono ?_;rintro e w' ⟨rfl,rfl⟩))
 all_goals
  go_ret
  refine ⟨ret_bool ?_,rfl⟩
  simp_all
end Go.Proofs.YtdmacgoeikjdbaaGreatDoor
namespace Go.Proofs.YtdmacgoeikjdbaaGreatDoor
open Go.RowKit
theorem ret_int {k:IntKind} {a b:Int} (h:a=b):Ending.returned (.int k a)=.returned (.int k b):=by rw [h]
def rl (p:Int→Bool) (l:List UInt8):Nat:=(l.takeWhile fun b=>p b.toNat).length
theorem rl_le (p:Int→Bool) (l:List UInt8):rl p l≤l.length:=by
 induction l with
 | nil=>simp [rl]
 | cons b l ih=>simp only [rl,List.takeWhile_cons] at ih ⊢;split <;> simp;omega
theorem rl_nil (p:Int→Bool):rl p []=0:=rfl
theorem rl_cons (p:Int→Bool) (b:UInt8) (l:List UInt8):rl p (b :: l)=if p b.toNat then rl p l + 1 else 0:=by
 unfold rl;rw [List.takeWhile_cons];split <;> simp
theorem drop_at (s:ByteArray) (k:Nat) (h:k<s.size):s.data.toList.drop k=s[k] :: s.data.toList.drop (k + 1):=by
 rw [List.drop_eq_getElem_cons (by simpa using h)];rfl
theorem runBlank (s:ByteArray) (hs:s.size≤9223372036854775807) (w:World) :
  Calls Tryz.prog 23 #[.string s,.func (.func 24) #[] #[]] w fun e w'=>e=.returned (.int .i64 (rl isBlank s.data.toList))∧w=w':=by
 go_enter Tryz.func23,Tryz.ntmps23
 go_wp2_with fail
 go_loop [5] (fun n=>∃ k:Nat,k≤s.size∧n=.int .i64 k∧Hid (k + rl isBlank (s.data.toList.drop k)=rl isBlank s.data.toList)) (fun n=>s.size - (intOf n).toNat)
 case atStart=>exact ⟨0,Nat.zero_le _,rfl,Lib.hid (by simp)⟩
 case round=>
  obtain ⟨k,hk,rfl,hr⟩:=hrel
  by_cases hlt:k<s.size
  ·go_wp2_with fail
   refine (blank_any _ _).mono ?_
   rintro e w' ⟨rfl,rfl⟩
   have hd:=Lib.hid (drop_at s k hlt)
   by_cases hp:isBlank (s[k].toNat)=true
   ·go_wp2_with fail
    go_round
    case rel=>exact ⟨k + 1,by omega,by go_num,Lib.hid (by have:=hr.out;rw [hd.out,rl_cons,if_pos hp] at this;omega)⟩
    case measure=>simp [intOf];omega
   ·have hp:isBlank (s[k].toNat)=false:=by simpa using hp
    go_wp2_with fail
    go_ret
    refine ⟨ret_int ?_,rfl⟩
    have:=hr.out;rw [hd.out,rl_cons,hp] at this;simp at this;omega
  ·obtain rfl:k=s.size:=by omega
   go_wp2_with fail
   go_ret
   refine ⟨ret_int ?_,rfl⟩
   have:=hr.out;rw [List.drop_of_length_le (by simp)] at this;simp [rl_nil] at this;omega
theorem runDigit (s:ByteArray) (hs:s.size≤9223372036854775807) (w:World) :
  Calls Tryz.prog 23 #[.string s,.func (.func 59) #[] #[]] w fun e w'=>e=.returned (.int .i64 (rl isDigit s.data.toList))∧w=w':=by
 go_enter Tryz.func23,Tryz.ntmps23
 go_wp2_with fail
 go_loop [5] (fun n=>∃ k:Nat,k≤s.size∧n=.int .i64 k∧Hid (k + rl isDigit (s.data.toList.drop k)=rl isDigit s.data.toList)) (fun n=>s.size - (intOf n).toNat)
 case atStart=>exact ⟨0,Nat.zero_le _,rfl,Lib.hid (by simp)⟩
 case round=>
  obtain ⟨k,hk,rfl,hr⟩:=hrel
  by_cases hlt:k<s.size
  ·go_wp2_with fail
   refine (digitL_any _ _).mono ?_
   rintro e w' ⟨rfl,rfl⟩
   have hd:=Lib.hid (drop_at s k hlt)
   by_cases hp:isDigit (s[k].toNat)=true
   ·go_wp2_with fail
    go_round
    case rel=>exact ⟨k + 1,by omega,by go_num,Lib.hid (by have:=hr.out;rw [hd.out,rl_cons,if_pos hp] at this;omega)⟩
    case measure=>simp [intOf];omega
   ·have hp:isDigit (s[k].toNat)=false:=by simpa using hp
    go_wp2_with fail
    go_ret
    refine ⟨ret_int ?_,rfl⟩
    have:=hr.out;rw [hd.out,rl_cons,hp] at this;simp at this;omega
  ·obtain rfl:k=s.size:=by omega
   go_wp2_with fail
   go_ret
   refine ⟨ret_int ?_,rfl⟩
   have:=hr.out;rw [List.drop_of_length_le (by simp)] at this;simp [rl_nil] at this;omega
theorem runBoth (s:ByteArray) (hs:s.size≤9223372036854775807) (w:World) :
  Calls Tryz.prog 23 #[.string s,.func (.func 80) #[] #[]] w fun e w'=>e=.returned (.int .i64 (rl (fun c=>isLetter c || isDigit c) s.data.toList))∧w=w':=by
 go_enter Tryz.func23,Tryz.ntmps23
 go_wp2_with fail
 go_loop [5] (fun n=>∃ k:Nat,k≤s.size∧n=.int .i64 k∧Hid (k + rl (fun c=>isLetter c || isDigit c) (s.data.toList.drop k)=rl (fun c=>isLetter c || isDigit c) s.data.toList)) (fun n=>s.size - (intOf n).toNat)
 case atStart=>exact ⟨0,Nat.zero_le _,rfl,Lib.hid (by simp)⟩
 case round=>
  obtain ⟨k,hk,rfl,hr⟩:=hrel
  by_cases hlt:k<s.size
  ·go_wp2_with fail
   refine (both_any _ _).mono ?_
   rintro e w' ⟨rfl,rfl⟩
   have hd:=Lib.hid (drop_at s k hlt)
   by_cases hp:(fun c=>isLetter c || isDigit c) (s[k].toNat)=true
   ·go_wp2_with fail
    go_round
    case rel=>exact ⟨k + 1,by omega,by go_num,Lib.hid (by have:=hr.out;rw [hd.out,rl_cons,if_pos hp] at this;omega)⟩
    case measure=>simp [intOf];omega
   ·have hp:(fun c=>isLetter c || isDigit c) (s[k].toNat)=false:=by simpa using hp
    go_wp2_with fail
    go_ret
    refine ⟨ret_int ?_,rfl⟩
    have:=hr.out;rw [hd.out,rl_cons,hp] at this;simp at this;omega
  ·obtain rfl:k=s.size:=by omega
   go_wp2_with fail
   go_ret
   refine ⟨ret_int ?_,rfl⟩
   have:=hr.out;rw [List.drop_of_length_le (by simp)] at this;simp [rl_nil] at this;omega
end Go.Proofs.YtdmacgoeikjdbaaGreatDoor
namespace Go.Proofs.YtdmacgoeikjdbaaGreatDoor
open Go.RowKit
def numFold:List UInt8→Int→Option Int
 | [],x=>some x
 | b :: l,x=>if (9223372036854775807 - ((b.toNat:Int) - 48)) / 10<x then none else numFold l (10 * x + ((b.toNat:Int) - 48))
def digits (l:List UInt8):List UInt8:=l.take (rl isDigit l)
theorem rl_at (p:Int→Bool):∀ (l:List UInt8) (k:Nat) (_:k<rl p l) (_:k<l.length),p (l[k].toNat)=true
 | [],k,h,h'=>by simp at h'
 | b :: l,0,h,_=>by rw [rl_cons] at h;split at h <;> simp_all
 | b :: l,k + 1,h,h'=>by
  rw [rl_cons] at h
  split at h
  ·simpa using rl_at p l k (by omega) (by simpa using h')
  ·omega
theorem digits_drop (l:List UInt8) (k:Nat) (h:k<rl isDigit l) (h':k<l.length):(digits l).drop k=l[k] :: (digits l).drop (k + 1):=by
 have hl:k<(l.take (rl isDigit l)).length:=by rw [List.length_take];omega
 show (l.take (rl isDigit l)).drop k=l[k] :: (l.take (rl isDigit l)).drop (k + 1)
 rw [List.drop_eq_getElem_cons hl,List.getElem_take]
theorem digits_end (l:List UInt8):(digits l).drop (rl isDigit l)=[]:=by
 unfold digits
 rw [List.drop_take]
 simp
structure Tok where
 kind:Int
 text:List UInt8
 n:Int
 pos:Int
def tokVal (kind:Int) (text:List UInt8) (n pos:Int):Value:=.agg #[.int .i64 kind,.string ⟨text.toArray⟩,.int .i64 n,.int .i64 pos]
def Tok.val (t:Tok):Value:=tokVal t.kind t.text t.n t.pos
def noTokT:Tok:=⟨0,[],0,0⟩
def noTok:Value:=tokVal 0 [] 0 0
def numberT (l:List UInt8):Tok × Nat × Int:=
 match numFold (digits l) 0 with
 | none=>(noTokT,0,10)
 | some x=>if (rl isDigit l<l.length && isLetter ((l.getD (rl isDigit l) 0).toNat)) then (noTokT,0,3) else (⟨2,[],x,0⟩,rl isDigit l,0)
def asL (r:Tok × Nat × Int):Value × Int × Int:=(r.1.val,(r.2.1:Int),r.2.2)
def numberL (l:List UInt8):Value × Int × Int:=asL (numberT l)
def wordsB:List UInt8:=[32,118,111,105,100,32,99,104,97,114,32,115,104,111,114,116,32,105,110,116,32,108,111,110,103,32,117,110,115,105,103,110,101,100,32,105,102,32,101,108,115,101,32,119,104,105,108,101,32,100,111,32,102,111,114,32,115,119,105,116,99,104,32,99,97,115,101,32,100,101,102,97,117,108,116,32,98,114,101,97,107,32,99,111,110,116,105,110,117,101,32,114,101,116,117,114,110,32,103,111,116,111,32,115,105,122,101,111,102,32]
def threeB:List UInt8:=[32,60,60,61,32,62,62,61,32]
def twoB:List UInt8:=[32,43,43,32,45,45,32,60,60,32,62,62,32,60,61,32,62,61,32,61,61,32,33,61,32,38,38,32,124,124,32,43,61,32,45,61,32,42,61,32,47,61,32,37,61,32,38,61,32,94,61,32,124,61,32]
def oneB:List UInt8:=[43,45,42,47,37,38,124,94,126,33,60,62,61,63,58,59,44,40,41,91,93,123,125]
def amid (all x:List UInt8):Bool:=Lib.contains all (32 :: (x ++ [32]))
theorem ext_take (s:ByteArray) (n:Nat):s.extract 0 n=⟨(s.data.toList.take n).toArray⟩:=by
 apply ByteArray.ext
 rw [← Array.toList_inj]
 simp
def isBoth (c:Int):Bool:=isLetter c || isDigit c
def nameT (l:List UInt8):Tok:=⟨if amid wordsB (l.take (rl isBoth l)) then 4 else 1,l.take (rl isBoth l),0,0⟩
def nameL (l:List UInt8):Value:=(nameT l).val
def signL (l:List UInt8):List UInt8:=
 if 3≤l.length∧amid threeB (l.take 3) then l.take 3
 else if 2≤l.length∧amid twoB (l.take 2) then l.take 2
 else if 0≤Lib.indexByte oneB (l.getD 0 0) then l.take 1
 else []
def tokenT (l:List UInt8):Tok × Nat × Int:=
 if isLetter (l.getD 0 0).toNat then (nameT l,rl isBoth l,0)
 else if isDigit (l.getD 0 0).toNat then numberT l
 else if signL l=[] then (noTokT,0,3)
 else (⟨3,signL l,0,0⟩,(signL l).length,0)
def tokenL (l:List UInt8):Value × Int × Int:=asL (tokenT l)
def scanL:Nat→List UInt8→Nat→List Tok→List Tok × Int × Int
 | 0,_,_,_=>([],0,0)
 | _ + 1,[],p,acc=>(acc ++ [⟨0,[],0,p⟩],0,0)
 | f + 1,b :: r,p,acc=>
  if (tokenT (b :: r)).2.2=0 then
   scanL f (((b :: r).drop (tokenT (b :: r)).2.1).drop (rl isBlank ((b :: r).drop (tokenT (b :: r)).2.1))) (p + (tokenT (b :: r)).2.1 + rl isBlank ((b :: r).drop (tokenT (b :: r)).2.1))
    (acc ++ [{ (tokenT (b :: r)).1 with pos:=p }])
  else ([],(tokenT (b :: r)).2.2,p)
def tokensT (l:List UInt8):List Tok × Int × Int:=
 if 2000<l.length then ([],2,0) else scanL (l.length + 1) (l.drop (rl isBlank l)) (rl isBlank l) []
def Tok.cells (t:Tok):List Value:=[.int .i64 t.kind,.string ⟨t.text.toArray⟩,.int .i64 t.n,.int .i64 t.pos]
def flat (l:List Tok):List Value:=l.flatMap Tok.cells
theorem flat_snoc (l:List Tok) (t:Tok):flat (l ++ [t])=flat l ++ t.cells:=by simp [flat]
end Go.Proofs.YtdmacgoeikjdbaaGreatDoor
namespace Go.Proofs.YtdmacgoeikjdbaaGreatDoor
open Go.RowKit
theorem below_alloc (w:World) (o:Obj):Below w.heap.size w (w.alloc o):=(Below.refl _ _).alloc (Nat.le_refl _) _
theorem bcell {W w1:World} (hb:Below W.heap.size W w1):(∀ b o,b<W.heap.size→w1.cell? ⟨b,o,none⟩=W.cell? ⟨b,o,none⟩)∧(∀ b o,b<W.heap.size→w1.frozen? ⟨b,o,none⟩=W.frozen? ⟨b,o,none⟩):=
 ⟨fun b o h=>hb.cell (p:=⟨b,o,none⟩) h,fun b o h=>hb.frozen (p:=⟨b,o,none⟩) h⟩
def BlkIs (w:World) (g:Nat) (t:TypeId) (cs:Array Value):Prop:=w.heap[g]?=some (.cells cs t (0,0))
section
variable {w w':World} {g:Nat} {t:TypeId} {cs:Array Value}
theorem BlkIs.lt (h:BlkIs w g t cs):g<w.heap.size:=by
 apply Nat.lt_of_not_le
 intro hge
 unfold BlkIs at h
 rw [Array.getElem?_eq_none hge] at h
 cases h
theorem BlkIs.cell (h:BlkIs w g t cs) (i:Nat):w.cell? ⟨g,i,none⟩=cs[i]?:=cell_of_row w g i cs t (0,0) h
theorem BlkIs.frozen (h:BlkIs w g t cs) (i:Nat):w.frozen? ⟨g,i,none⟩=false:=by
 unfold BlkIs at h
 simp [World.frozen?,h]
theorem BlkIs.fresh (w:World) (t:TypeId) (cs:Array Value):BlkIs (w.alloc (.cells cs t)) w.heap.size t cs:=heap_alloc_new w _
theorem BlkIs.drew (h:BlkIs w g t cs):BlkIs w.drew g t cs:=h
theorem BlkIs.alloc (h:BlkIs w g t cs) (o:Obj):BlkIs (w.alloc o) g t cs:=(Below.heap_alloc w o g h.lt).trans h
theorem BlkIs.far (h:BlkIs w g t cs) {p:Addr} (hp:g ≠ p.block) (u:Value):BlkIs (w.setCell p u) g t cs:=(Below.heap_setCell w p u g hp).trans h
theorem BlkIs.put (h:BlkIs w g t cs) (i:Nat) (u:Value):BlkIs (w.setCell ⟨g,i,none⟩ u) g t (cs.setIfInBounds i u):=by
 unfold BlkIs at h ⊢
 simp [World.setCell,Array.getElem?_modify,h]
theorem BlkIs.below {B:Nat} (h:BlkIs w g t cs) (hb:Below B w w') (hg:g<B):BlkIs w' g t cs:=(hb.block g hg).trans h
theorem BlkIs.grown {row:Option Nat} (h:BlkIs w g t cs) (hb:w.grownBy w' row) (hg:some g ≠ row):BlkIs w' g t cs:=(hb.block g h.lt hg).trans h
end
theorem BlkIs.cells {w:World} {g:Nat} {t:TypeId} {cs:Array Value} (h:BlkIs w g t cs) {news:List Value} (e:cs.toList=news):∀ j u,news[j]?=some u→w.cell? ((⟨g,0,none⟩:Addr).add j)=some u:=by
 intro j u hu
 have:(⟨g,0,none⟩:Addr).add j=⟨g,j,none⟩:=by
  unfold Addr.add
  split
  ·rename_i h0;rw [h0]
  ·simp
 rw [this,h.cell j,← hu,← e]
 simp
theorem own_ne_blk {w:World} {base g:Nat} {e t:TypeId} {size n:Nat} {v:Value} {xs:List Value} {cs:Array Value} (h:w.ownsRow base e size v n xs) (hg:BlkIs w g t cs) (hne:e ≠ t):some g ≠ v.ownBlock:=by
 intro hv
 rcases h.2 with ⟨rfl,_⟩ | ⟨g',cap,cur,rfl,_,hh,_⟩
 ·simp [Value.ownBlock] at hv
 ·have e1:g=g':=by simpa [Value.ownBlock] using hv
  subst e1
  unfold BlkIs at hg
  rw [hh] at hg
  injection hg with hg
  injection hg with _ ht
  exact hne ht
theorem own_block_ge {w:World} {base:Nat} {e:TypeId} {size n:Nat} {v:Value} {xs:List Value} (h:w.ownsRow base e size v n xs):∀ k,v.ownBlock=some k→base≤k:=by
 intro k hk
 rcases h.2 with ⟨rfl,_⟩ | ⟨g',cap,cur,rfl,hb,_⟩
 ·simp [Value.ownBlock] at hk
 ·have e1:g'=k:=by simpa [Value.ownBlock] using hk
  omega
theorem lt_of_block {w:World} {k:Nat} {o:Obj} (h:w.heap[k]?=some o):k<w.heap.size:=by
 apply Nat.lt_of_not_le
 intro hge
 rw [Array.getElem?_eq_none hge] at h
 cases h
theorem own_below {w w':World} {base:Nat} {e:TypeId} {size n:Nat} {v:Value} {xs:List Value} (h:w.ownsRow base e size v n xs) (hb:Below w.heap.size w w'):w'.ownsRow base e size v n xs:=by
 refine ⟨h.1,?_⟩
 rcases h.2 with h2 | ⟨g',cap,cur,hv,hbs,hh,hr⟩
 ·exact .inl h2
 ·exact .inr ⟨g',cap,cur,hv,hbs,(hb.block _ (lt_of_block hh)).trans hh,hr⟩
theorem own_far {w:World} {base:Nat} {e:TypeId} {size n:Nat} {v:Value} {xs:List Value} (h:w.ownsRow base e size v n xs) {p:Addr} (hp:some p.block ≠ v.ownBlock) (u:Value):(w.setCell p u).ownsRow base e size v n xs:=by
 refine ⟨h.1,?_⟩
 rcases h.2 with h2 | ⟨g',cap,cur,hv,hbs,hh,hr⟩
 ·exact .inl h2
 ·refine .inr ⟨g',cap,cur,hv,hbs,(Below.heap_setCell w p u g' ?_).trans hh,hr⟩
  intro e
  subst e
  exact hp (by rw [hv];rfl)
theorem ext_drop (s:ByteArray) (a:Nat):(s.extract a s.size).data.toList=s.data.toList.drop a:=by
 simp only [ByteArray.data_extract,Array.toList_extract]
 simp
 rw [List.take_of_length_le (by simp)]
end Go.Proofs.YtdmacgoeikjdbaaGreatDoor
namespace Go.Proofs.YtdmacgoeikjdbaaGreatDoor
open Go.RowKit
def wordsR:List (List UInt8):=[[118,111,105,100],[99,104,97,114],[115,104,111,114,116],[105,110,116],[108,111,110,103],[117,110,115,105,103,110,101,100],[105,102],[101,108,115,101],[119,104,105,108,101],[100,111],[102,111,114],[115,119,105,116,99,104],[99,97,115,101],[100,101,102,97,117,108,116],[98,114,101,97,107],[99,111,110,116,105,110,117,101],[114,101,116,117,114,110],[103,111,116,111],[115,105,122,101,111,102]]
def signsR:List (List UInt8):=[[60,60,61],[62,62,61],[43,43],[45,45],[60,60],[62,62],[60,61],[62,61],[61,61],[33,61],[38,38],[124,124],[43,61],[45,61],[42,61],[47,61],[37,61],[38,61],[94,61],[124,61],[43],[45],[42],[47],[37],[38],[124],[94],[126],[33],[60],[62],[61],[63],[58],[59],[44],[40],[41],[91],[93],[123],[125]]
end Go.Proofs.YtdmacgoeikjdbaaGreatDoor
namespace Go.Proofs.YtdmacgoeikjdbaaGreatDoor
open Go.RowKit
theorem rl_pos {p:Int→Bool} {b:UInt8} {l:List UInt8} (h:p b.toNat=true):0<rl p (b :: l):=by rw [rl_cons,if_pos h];omega
theorem signL_le (l:List UInt8):(signL l).length≤l.length:=by
 unfold signL
 split
 ·simp;omega
 ·split
  ·simp;omega
  ·split <;> simp;omega
theorem numberT_le (l:List UInt8):(numberT l).2.1≤l.length:=by
 unfold numberT
 split
 ·simp
 ·split
  ·simp
  ·exact rl_le _ _
theorem tokenT_le (l:List UInt8):(tokenT l).2.1≤l.length:=by
 unfold tokenT
 split
 ·exact rl_le _ _
 ·split
  ·exact numberT_le l
  ·split
   ·simp
   ·exact signL_le l
theorem numberT_pos (b:UInt8) (l:List UInt8) (hd:isDigit b.toNat=true) (h:(numberT (b :: l)).2.2=0):0<(numberT (b :: l)).2.1:=by
 revert h
 unfold numberT
 split
 ·simp
 ·split
  ·simp
  ·intro _;exact rl_pos hd
theorem tokenT_pos (b:UInt8) (l:List UInt8) (h:(tokenT (b :: l)).2.2=0):0<(tokenT (b :: l)).2.1:=by
 revert h
 unfold tokenT
 rw [List.getD_cons_zero]
 split
 ·rename_i hl;intro _;exact rl_pos (p:=isBoth) (by simp [isBoth,hl])
 ·split
  ·rename_i hd;exact numberT_pos b l hd
  ·split
   ·simp
   ·rename_i hs;intro _;exact List.length_pos_iff.2 hs
end Go.Proofs.YtdmacgoeikjdbaaGreatDoor
namespace Go.Proofs.YtdmacgoeikjdbaaGreatDoor
open Go.RowKit
def signR (l:List UInt8):List UInt8:=(signsR.find? fun x=>x.isPrefixOf l).getD []
def nameR (l:List UInt8):Tok:=⟨if l.take (rl isBoth l) ∈ wordsR then 4 else 1,l.take (rl isBoth l),0,0⟩
def tokenR (l:List UInt8):Tok × Nat × Int:=
 if isLetter (l.getD 0 0).toNat then (nameR l,rl isBoth l,0)
 else if isDigit (l.getD 0 0).toNat then numberT l
 else if signR l=[] then (noTokT,0,3)
 else (⟨3,signR l,0,0⟩,(signR l).length,0)
def scanR:Nat→List UInt8→Nat→List Tok→List Tok × Int × Int
 | 0,_,_,_=>([],0,0)
 | _ + 1,[],p,acc=>(acc ++ [⟨0,[],0,p⟩],0,0)
 | f + 1,b :: r,p,acc=>
  if isBlank b.toNat then scanR f r (p + 1) acc
  else if (tokenR (b :: r)).2.2=0 then scanR f ((b :: r).drop (tokenR (b :: r)).2.1) (p + (tokenR (b :: r)).2.1) (acc ++ [{ (tokenR (b :: r)).1 with pos:=p }])
  else ([],(tokenR (b :: r)).2.2,p)
def tokensR (l:List UInt8):List Tok × Int × Int:=
 if 2000<l.length then ([],2,0) else scanR (l.length + 1) l 0 []
theorem isPrefixOf_take (x l:List UInt8):x.isPrefixOf l=true ↔ x.length≤l.length∧l.take x.length=x:=by
 rw [List.isPrefixOf_iff_prefix,List.prefix_iff_eq_take]
 constructor
 ·intro h
  have h1:=congrArg List.length h
  rw [List.length_take] at h1
  exact ⟨by omega,h.symm⟩
 ·intro h;exact h.2.symm
end Go.Proofs.YtdmacgoeikjdbaaGreatDoor
namespace Go.Proofs.YtdmacgoeikjdbaaGreatDoor
open Go.RowKit
theorem index_ge (sub:List UInt8):∀ s:List UInt8,-1≤Lib.index s sub
 | []=>by unfold Lib.index;split <;> omega
 | b :: l=>by
  have:=index_ge sub l
  unfold Lib.index
  split
  ·omega
  ·split
   ·omega
   ·omega
theorem index_cons (b:UInt8) (l sub:List UInt8):0≤Lib.index (b :: l) sub ↔ sub.isPrefixOf (b :: l)=true ∨ 0≤Lib.index l sub:=by
 have:=index_ge sub l
 conv=>lhs;unfold Lib.index
 by_cases h:sub.isPrefixOf (b :: l)=true
 ·simp [h]
 ·rw [if_neg h]
  by_cases h2:Lib.index l sub=-1
  ·simp [h2,h]
  ·have h3:(Lib.index l sub == -1)=false:=by simpa using h2
   rw [h3,if_neg (by simp)]
   constructor
   ·intro _;exact .inr (by omega)
   ·intro _;omega
def joined (ws:List (List UInt8)):List UInt8:=ws.flatMap fun w=>w ++ [32]
theorem pre_one (F:List UInt8):∀ (x w:List UInt8),32 ∉ x→32 ∉ w→((x ++ [32]).isPrefixOf (w ++ 32 :: F)=true ↔ x=w)
 | [],[],_,_=>by simp [List.isPrefixOf]
 | [],a :: w,_,hw=>by
  have:¬ (32:UInt8)=a:=fun h=>hw (by simp [h])
  simp [List.isPrefixOf,this]
 | a :: x,[],hx,_=>by
  have:¬ a=(32:UInt8):=fun h=>hx (by simp [h])
  simp [List.isPrefixOf,this]
 | a :: x,b :: w,hx,hw=>by
  have ih:=pre_one F x w (fun h=>hx (by simp [h])) (fun h=>hw (by simp [h]))
  simp only [List.cons_append,List.isPrefixOf,Bool.and_eq_true,beq_iff_eq,ih,List.cons.injEq]
theorem index_skip (F sub:List UInt8):∀ w:List UInt8,32 ∉ w→(0≤Lib.index (w ++ F) (32 :: sub) ↔ 0≤Lib.index F (32 :: sub))
 | [],_=>by simp
 | a :: w,hw=>by
  have ih:=index_skip F sub w (fun h=>hw (by simp [h]))
  have:((32:UInt8) == a)=false:=by simpa using fun h=>hw (by simp [h])
  rw [List.cons_append,index_cons,ih]
  simp [List.isPrefixOf,this]
theorem amid_joined (x:List UInt8) (hx:32 ∉ x):∀ ws:List (List UInt8),(∀ w ∈ ws,32 ∉ w)→(0≤Lib.index (32 :: joined ws) (32 :: (x ++ [32])) ↔ x ∈ ws)
 | [],_=>by
  rw [index_cons]
  cases x <;> simp [joined,List.isPrefixOf,Lib.index]
 | w :: ws,hw=>by
  have ih:=amid_joined x hx ws (fun v hv=>hw v (by simp [hv]))
  have h0:joined (w :: ws)=w ++ (32 :: joined ws):=by simp [joined]
  rw [h0,index_cons,index_skip _ _ w (hw w (by simp)),ih]
  have h1:(32 :: (x ++ [32])).isPrefixOf (32 :: (w ++ 32 :: joined ws))=(x ++ [32]).isPrefixOf (w ++ 32 :: joined ws):=by simp [List.isPrefixOf]
  rw [h1,pre_one _ x w hx (hw w (by simp)),List.mem_cons]
theorem wordsB_joined:wordsB=32 :: joined wordsR:=by decide +kernel
theorem amid_words (x:List UInt8) (hx:32 ∉ x):amid wordsB x=decide (x ∈ wordsR):=by
 unfold amid Lib.contains
 rw [wordsB_joined,decide_eq_decide]
 exact amid_joined x hx wordsR (by decide)
theorem take_no (p:Int→Bool) (hp:p 32=false):∀ l:List UInt8,32 ∉ l.take (rl p l)
 | []=>by simp
 | b :: l=>by
  rw [rl_cons]
  split
  ·rename_i h
   simp only [List.take_succ_cons,List.mem_cons,not_or]
   refine ⟨?_,take_no p hp l⟩
   intro e
   rw [← e] at h
   have:p 32=true:=h
   rw [hp] at this
   cases this
  ·simp
theorem name_same (l:List UInt8):nameT l=nameR l:=by
 unfold nameT nameR
 rw [amid_words _ (take_no isBoth (by decide) l)]
 simp
def threeR:List (List UInt8):=signsR.take 2
def twoR:List (List UInt8):=(signsR.drop 2).take 18
def oneR:List (List UInt8):=signsR.drop 20
theorem signsR_parts:signsR=threeR ++ (twoR ++ oneR):=rfl
theorem find_pre (k:Nat) (l:List UInt8):∀ L:List (List UInt8),(∀ x ∈ L,x.length=k)→(L.find? fun x=>x.isPrefixOf l)=if k≤l.length∧l.take k ∈ L then some (l.take k) else none
 | [],_=>by simp
 | x :: L,h=>by
  have ih:=find_pre k l L (fun y hy=>h y (by simp [hy]))
  have hx:=h x (by simp)
  rw [List.find?_cons]
  by_cases hp:x.isPrefixOf l=true
  ·obtain ⟨h1,h2⟩:=(isPrefixOf_take x l).1 hp
   rw [hx] at h1 h2
   rw [hp]
   simp [h1,h2]
  ·have h1:¬ (k≤l.length∧l.take k=x):=by
    intro ⟨h1,h2⟩
    exact hp ((isPrefixOf_take x l).2 (by rw [hx];exact ⟨h1,h2⟩))
   rw [Bool.not_eq_true] at hp
   rw [hp,ih]
   have h2:(k≤l.length∧l.take k ∈ x :: L) ↔ (k≤l.length∧l.take k ∈ L):=by
    rw [List.mem_cons]
    constructor
    ·rintro ⟨a,b | b⟩
     ·exact absurd ⟨a,b⟩ h1
     ·exact ⟨a,b⟩
    ·rintro ⟨a,b⟩;exact ⟨a,.inr b⟩
   simp only [h2]
theorem index_nil (b:UInt8) (sub:List UInt8):(0≤Lib.index [] (b :: sub))=False:=by simp [Lib.index]
theorem amid_three (b c d:UInt8):amid threeB [b,c,d]=decide ([b,c,d] ∈ threeR):=by
 unfold amid Lib.contains threeB
 rw [decide_eq_decide,show threeR=[[60,60,61],[62,62,61]] from rfl]
 simp [index_cons,index_nil,List.isPrefixOf]
theorem amid_two (b c:UInt8):amid twoB [b,c]=decide ([b,c] ∈ twoR):=by
 unfold amid Lib.contains twoB
 rw [decide_eq_decide,show twoR=[[43,43],[45,45],[60,60],[62,62],[60,61],[62,61],[61,61],[33,61],[38,38],[124,124],[43,61],[45,61],[42,61],[47,61],[37,61],[38,61],[94,61],[124,61]] from rfl]
 simp [index_cons,index_nil,List.isPrefixOf]
theorem index_one (b:UInt8):∀ l:List UInt8,(0≤Lib.indexByte l b ↔ [b] ∈ l.map fun x=>[x])
 | []=>by simp [Lib.indexByte]
 | a :: l=>by
  have ih:=index_one b l
  have hge:∀ l:List UInt8,-1≤Lib.indexByte l b:=by
   intro l
   induction l with
   | nil=>simp [Lib.indexByte]
   | cons a l ih=>unfold Lib.indexByte;split;omega;split <;> omega
  have h2:=hge l
  unfold Lib.indexByte
  by_cases h:a=b
  ·subst h;simp
  ·have h1:(a == b)=false:=by simpa using h
   rw [h1,if_neg (by simp)]
   by_cases h3:Lib.indexByte l b=-1
   ·rw [h3] at ih ⊢
    simp at ih ⊢
    exact ⟨fun e=>h e.symm,ih⟩
   ·have h4:(Lib.indexByte l b == -1)=false:=by simpa using h3
    rw [h4,if_neg (by simp)]
    have h5:0≤Lib.indexByte l b:=by omega
    have h6:=ih.1 h5
    constructor
    ·intro _;simp at h6 ⊢;exact .inr h6
    ·intro _;omega
theorem oneB_map:(oneB.map fun x=>[x])=oneR:=rfl
theorem sign_same (b:UInt8) (r:List UInt8):signL (b :: r)=signR (b :: r):=by
 unfold signL signR
 rw [signsR_parts,List.find?_append,List.find?_append,find_pre 3 _ threeR (by decide),find_pre 2 _ twoR (by decide),find_pre 1 _ oneR (by decide)]
 have h1:(0≤Lib.indexByte oneB ((b :: r).getD 0 0)) ↔ (1≤(b :: r).length∧(b :: r).take 1 ∈ oneR):=by
  rw [List.getD_cons_zero,index_one,oneB_map]
  simp
 have h2:(2≤(b :: r).length∧amid twoB ((b :: r).take 2)=true) ↔ (2≤(b :: r).length∧(b :: r).take 2 ∈ twoR):=by
  match r with
  | []=>simp
  | c :: r=>simp [amid_two]
 have h3:(3≤(b :: r).length∧amid threeB ((b :: r).take 3)=true) ↔ (3≤(b :: r).length∧(b :: r).take 3 ∈ threeR):=by
  match r with
  | []=>simp
  | [c]=>simp
  | c :: d :: r=>simp [amid_three]
 simp only [h1,h2,h3]
 split
 ·simp
 ·split
  ·simp
  ·split <;> simp
theorem token_same (b:UInt8) (r:List UInt8):tokenT (b :: r)=tokenR (b :: r):=by
 unfold tokenT tokenR
 rw [name_same,sign_same]
theorem tokenR_le (l:List UInt8) (h:l ≠ []):(tokenR l).2.1≤l.length:=by
 match l,h with
 | b :: r,_=>rw [← token_same];exact tokenT_le _
theorem tokenR_pos (b:UInt8) (l:List UInt8) (h:(tokenR (b :: l)).2.2=0):0<(tokenR (b :: l)).2.1:=by
 rw [← token_same] at h ⊢;exact tokenT_pos b l h
theorem scanR_fuel:∀ (f f':Nat) (l:List UInt8) (p:Nat) (acc:List Tok),l.length<f→l.length<f'→scanR f l p acc=scanR f' l p acc
 | 0,_,_,_,_,h,_=>by omega
 | _ + 1,0,_,_,_,_,h=>by omega
 | f + 1,f' + 1,[],p,acc,_,_=>rfl
 | f + 1,f' + 1,b :: r,p,acc,h,h'=>by
  simp only [List.length_cons] at h h'
  unfold scanR
  split
  ·exact scanR_fuel f f' r _ _ (by omega) (by omega)
  ·split
   ·rename_i he
    have h1:=tokenR_pos b r he
    exact scanR_fuel f f' _ _ _ (by simp;omega) (by simp;omega)
   ·rfl
theorem scanR_blanks:∀ (l:List UInt8) (f p:Nat) (acc:List Tok),l.length<f→scanR f l p acc=scanR f (l.drop (rl isBlank l)) (p + rl isBlank l) acc
 | [],f,p,acc,_=>by simp [rl_nil]
 | b :: r,0,_,_,h=>by omega
 | b :: r,f + 1,p,acc,h=>by
  simp only [List.length_cons] at h
  rw [rl_cons]
  by_cases hb:isBlank b.toNat=true
  ·rw [if_pos hb,List.drop_succ_cons]
   conv=>lhs;unfold scanR
   rw [if_pos hb,scanR_blanks r f (p + 1) acc (by omega),show p + (rl isBlank r + 1)=p + 1 + rl isBlank r from by omega]
   exact scanR_fuel _ _ _ _ _ (by simp;omega) (by simp;omega)
  ·rw [if_neg hb];rfl
theorem rl_head (p:Int→Bool):∀ l:List UInt8,l.drop (rl p l)=[] ∨ ∃ b r,l.drop (rl p l)=b :: r∧p b.toNat=false
 | []=>by simp
 | b :: l=>by
  rw [rl_cons]
  by_cases hb:p b.toNat=true
  ·rw [if_pos hb,List.drop_succ_cons];exact rl_head p l
  ·rw [if_neg hb]
   exact .inr ⟨b,l,rfl,by simpa using hb⟩
theorem scan_same:∀ (f:Nat) (l:List UInt8) (p:Nat) (acc:List Tok),l.length<f→(l=[] ∨ ∃ b r,l=b :: r∧isBlank b.toNat=false)→scanL f l p acc=scanR f l p acc
 | 0,_,_,_,h,_=>by omega
 | f + 1,[],p,acc,_,_=>rfl
 | f + 1,b :: r,p,acc,h,hh=>by
  have hb:isBlank b.toNat=false:=by
   rcases hh with hh | ⟨b',r',hh,h2⟩
   ·cases hh
   ·injection hh with h3 h4;rw [h3];exact h2
  simp only [List.length_cons] at h
  unfold scanL scanR
  rw [if_neg (show ¬ isBlank b.toNat=true by rw [hb];simp),token_same]
  by_cases he:(tokenR (b :: r)).2.2=0
  ·rw [if_pos he,if_pos he]
   have h1:=tokenR_pos b r he
   rw [scan_same f _ _ _ (by simp;omega) (rl_head isBlank _)]
   exact (scanR_blanks _ f _ _ (by simp;omega)).symm
  ·rw [if_neg he,if_neg he]
theorem tokens_same (l:List UInt8):tokensT l=tokensR l:=by
 unfold tokensT tokensR
 split
 ·rfl
 ·rw [scan_same _ _ _ _ (by simp;omega) (rl_head isBlank l)]
  have:=scanR_blanks l (l.length + 1) 0 [] (by omega)
  rw [this,Nat.zero_add]
end Go.Proofs.YtdmacgoeikjdbaaGreatDoor
namespace Go.Proofs.YtdmacgoeikjdbaaGreatDoor
open Go.RowKit
def shiftTok (d:Int) (t:Tok):Tok:={ t with pos:=t.pos + d }
theorem take_app (l m:List UInt8) (n:Nat) (h:n≤l.length):(l ++ m).take n=l.take n:=by
 rw [List.take_append]
 have:n - l.length=0:=by omega
 rw [this];simp
theorem getD_app (l m:List UInt8) (n:Nat) (h:n<l.length):(l ++ m).getD n 0=l.getD n 0:=by
 rw [List.getD_eq_getElem?_getD,List.getD_eq_getElem?_getD,List.getElem?_append_left h]
theorem tokenR_kind (b:UInt8) (r:List UInt8) (h:(tokenR (b :: r)).2.2=0):(tokenR (b :: r)).1.kind ≠ 0:=by
 revert h
 unfold tokenR nameR numberT
 split
 ·intro _;simp only [];split <;> decide
 ·split
  ·split
   ·simp
   ·split
    ·simp
    ·simp
  ·split <;> simp
theorem scanR_pos (B:Nat):∀ (f:Nat) (l:List UInt8) (p:Nat) (acc:List Tok),p + l.length≤B→(∀ t ∈ acc,0≤t.pos∧t.pos≤B) →
  (∀ t ∈ (scanR f l p acc).1,0≤t.pos∧t.pos≤B)∧0≤(scanR f l p acc).2.2∧(scanR f l p acc).2.2≤B
 | 0,_,_,_,_,_=>by simp [scanR]
 | f + 1,[],p,acc,h,ha=>by
  simp only [List.length_nil] at h
  simp only [scanR]
  refine ⟨fun t ht=>?_,by omega,by omega⟩
  rcases List.mem_append.1 ht with ht | ht
  ·exact ha t ht
  ·simp only [List.mem_singleton] at ht
   subst ht
   exact ⟨by simp,by simp;omega⟩
 | f + 1,b :: r,p,acc,h,ha=>by
  simp only [List.length_cons] at h
  unfold scanR
  split
  ·exact scanR_pos B f r _ _ (by omega) ha
  ·split
   ·have hl:=tokenR_le (b :: r) (by simp)
    simp only [List.length_cons] at hl
    refine scanR_pos B f _ _ _ (by simp only [List.length_drop,List.length_cons];omega) (fun t ht=>?_)
    rcases List.mem_append.1 ht with ht | ht
    ·exact ha t ht
    ·simp only [List.mem_singleton] at ht
     subst ht
     exact ⟨by simp,by simp;omega⟩
   ·exact ⟨by simp,by simp,by simp;omega⟩
theorem tokens_pos (l:List UInt8) (hl:l.length≤2000):(∀ t ∈ (tokensT l).1,0≤t.pos∧t.pos≤2000)∧0≤(tokensT l).2.2∧(tokensT l).2.2≤2000:=by
 rw [tokens_same]
 unfold tokensR
 rw [if_neg (by omega)]
 have:=scanR_pos 2000 (l.length + 1) l 0 [] (by omega) (by simp)
 simpa using this
end Go.Proofs.YtdmacgoeikjdbaaGreatDoor

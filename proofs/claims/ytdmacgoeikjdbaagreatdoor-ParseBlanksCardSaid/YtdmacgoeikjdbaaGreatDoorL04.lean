/- lex.token walked. lex.Tokens walked. The reference's Tokens walked. Pr -/
import Derived.Test.YtdmacgoeikjdbaaGreatDoorL03
import Derived.Test.YtdmacgoeikjdbaaGreatDoorL01
import Derived.BigRegion
import Derived.RegionTactic
import Derived.Test.YtdmacgoeikjdbaaGreatDoorL02
import Derived.Outline
import Derived.BigQuiet
import Derived.IntWalk
import Derived.Deep.CutBlock
import Derived.Deep.DeepCutAuto
import Derived.Deep.RegionWith
import Derived.Deep.QuietTactic
import Derived.Great.BuildSlice
set_option linter.unusedSimpArgs false
set_option linter.unusedVariables false
set_option maxHeartbeats 1000000
namespace Go.Proofs.YtdmacgoeikjdbaaGreatDoor
open Go.RowKit
theorem token_any (s:ByteArray) (hs:s.size≤100000) (h1:0<s.size) (w:World) (m:Int) (hm:w.cell? ⟨0,0,none⟩=some (.int .i64 m)) (h0:0<w.heap.size) :
  Calls Tryz.prog 25 #[.string s] w fun e w'=>e=.returned (.tuple #[(tokenL s.data.toList).1,.int .i64 (tokenL s.data.toList).2.1,.int .i64 (tokenL s.data.toList).2.2])∧Below w.heap.size w w':=by
 have hg:=Lib.hid (get0 s h1)
 by_cases hl:isLetter s[0].toNat=true
 ·have HT:Hid (tokenL s.data.toList=(nameL s.data.toList,(rl isBoth s.data.toList:Int),0)):=by
   unfold tokenL tokenT;rw [hg.out,if_pos hl];exact Lib.hid rfl
  obtain ⟨kd,hkd⟩:∃ kd,nameL s.data.toList=tokVal kd (s.data.toList.take (rl isBoth s.data.toList)) 0 0:=⟨_,rfl⟩
  go_enter Tryz.func25,Tryz.ntmps25
  go_wp2_with (go_at_call 57;refine (letterL_any _ _).mono ?_;rintro e w' ⟨rfl,rfl⟩)
  refine (name_any s hs _ m (by rw [World.cell?_alloc_lt _ _ _ (by exact h0)];exact hm) (by simp)).mono ?_
  rintro e w1 ⟨rfl,hb⟩
  have hz:w.heap.size<w1.heap.size:=by have:=hb.size;simp at this;omega
  have c0:w1.cell? ⟨w.heap.size,0,none⟩=some (.int .i64 0):=by rw [(bcell hb).1 _ _ (by simp)];simp
  have c1:w1.cell? ⟨w.heap.size,1,none⟩=some (.string ⟨#[]⟩):=by rw [(bcell hb).1 _ _ (by simp)];simp
  have c2:w1.cell? ⟨w.heap.size,2,none⟩=some (.int .i64 0):=by rw [(bcell hb).1 _ _ (by simp)];simp
  have c3:w1.cell? ⟨w.heap.size,3,none⟩=some (.int .i64 0):=by rw [(bcell hb).1 _ _ (by simp)];simp
  have f0:w1.frozen? ⟨w.heap.size,0,none⟩=false:=by rw [(bcell hb).2 _ _ (by simp)];simp
  have f1:w1.frozen? ⟨w.heap.size,1,none⟩=false:=by rw [(bcell hb).2 _ _ (by simp)];simp
  have f2:w1.frozen? ⟨w.heap.size,2,none⟩=false:=by rw [(bcell hb).2 _ _ (by simp)];simp
  have f3:w1.frozen? ⟨w.heap.size,3,none⟩=false:=by rw [(bcell hb).2 _ _ (by simp)];simp
  rw [hkd,tokVal]
  go_wp2_with fail
  go_region
  have hle:rl isBoth s.data.toList≤s.size:=by have:=rl_le isBoth s.data.toList;simpa using this
  go_wp2_with fail
  refine bodyPost_ret (v:=.tuple #[nameL s.data.toList,.int .i64 (rl isBoth s.data.toList),.int .i64 0]) (by rw [hkd,tokVal];simp [results,Tryz.results25,go_sem,hz,c0,c1,c2,c3,Nat.min_eq_left hle]) rfl ⟨by rw [HT.out],?_⟩
  have hb0:Below w.heap.size w w1:=(below_alloc w _).trans (hb.mono (by simp))
  repeat (first | exact hb0 | refine Below.drew ?_ | refine Below.setCell ?_ (by simp) _ | refine Below.alloc ?_ (by simp;omega) _)
 ·have hl':isLetter s[0].toNat=false:=by simpa using hl
  by_cases hd:isDigit s[0].toNat=true
  ·have HT:Hid (tokenL s.data.toList=numberL s.data.toList):=by
    unfold tokenL tokenT;rw [hg.out,if_neg hl,if_pos hd];exact Lib.hid rfl
   obtain ⟨kd,y,hkd⟩:∃ kd y,(numberL s.data.toList).1=tokVal kd [] y 0:=by
    unfold numberL numberT
    split
    ·exact ⟨_,_,rfl⟩
    ·split <;> exact ⟨_,_,rfl⟩
   clear hl
   go_enter Tryz.func25,Tryz.ntmps25
   go_wp2_with (first | (go_at_call 57;refine (letterL_any _ _).mono ?_;rintro e w' ⟨rfl,rfl⟩) | (go_at_call 59;refine (digitL_any _ _).mono ?_;rintro e w' ⟨rfl,rfl⟩))
   refine (number_any s hs _).mono ?_
   rintro e w1 ⟨rfl,hb⟩
   have hz:w.heap.size<w1.heap.size:=by have:=hb.size;simp at this;omega
   have c0:w1.cell? ⟨w.heap.size,0,none⟩=some (.int .i64 0):=by rw [(bcell hb).1 _ _ (by simp)];simp
   have c1:w1.cell? ⟨w.heap.size,1,none⟩=some (.string ⟨#[]⟩):=by rw [(bcell hb).1 _ _ (by simp)];simp
   have c2:w1.cell? ⟨w.heap.size,2,none⟩=some (.int .i64 0):=by rw [(bcell hb).1 _ _ (by simp)];simp
   have c3:w1.cell? ⟨w.heap.size,3,none⟩=some (.int .i64 0):=by rw [(bcell hb).1 _ _ (by simp)];simp
   have f0:w1.frozen? ⟨w.heap.size,0,none⟩=false:=by rw [(bcell hb).2 _ _ (by simp)];simp
   have f1:w1.frozen? ⟨w.heap.size,1,none⟩=false:=by rw [(bcell hb).2 _ _ (by simp)];simp
   have f2:w1.frozen? ⟨w.heap.size,2,none⟩=false:=by rw [(bcell hb).2 _ _ (by simp)];simp
   have f3:w1.frozen? ⟨w.heap.size,3,none⟩=false:=by rw [(bcell hb).2 _ _ (by simp)];simp
   rw [hkd,tokVal]
   go_wp2_with fail
   refine bodyPost_ret (v:=.tuple #[(numberL s.data.toList).1,.int .i64 (numberL s.data.toList).2.1,.int .i64 (numberL s.data.toList).2.2]) (by rw [hkd,tokVal];simp [results,Tryz.results25,go_sem,c0,c1,c2,c3]) rfl ⟨by rw [HT.out],?_⟩
   have hb0:Below w.heap.size w w1:=(below_alloc w _).trans (hb.mono (by simp))
   repeat (first | exact hb0 | refine Below.drew ?_ | refine Below.setCell ?_ (by simp) _ | refine Below.alloc ?_ (by simp;omega) _)
  ·have hd':isDigit s[0].toNat=false:=by simpa using hd
   have HT:Hid (tokenL s.data.toList=if signL s.data.toList=[] then (noTok,0,3) else (tokVal 3 (signL s.data.toList) 0 0,((signL s.data.toList).length:Int),0)):=by
    unfold tokenL tokenT;rw [hg.out,if_neg hl,if_neg hd];refine Lib.hid ?_;split <;> rfl
   clear hl hd
   by_cases hs0:signL s.data.toList=[]
   ·have H0:(signL s.data.toList).isEmpty=true:=by rw [hs0];rfl
    have HT':Hid (tokenL s.data.toList=(noTok,0,3)):=Lib.hid (HT.out.trans (if_pos hs0))
    clear hs0
    go_enter Tryz.func25,Tryz.ntmps25
    go_wp2_with (first | (go_at_call 57;refine (letterL_any _ _).mono ?_;rintro e w' ⟨rfl,rfl⟩) | (go_at_call 59;refine (digitL_any _ _).mono ?_;rintro e w' ⟨rfl,rfl⟩))
    refine (sign_any s hs h1 _ m (by rw [World.cell?_alloc_lt _ _ _ (by exact h0)];exact hm)).mono ?_
    rintro e w1 ⟨rfl,rfl⟩
    go_wp2_with fail
    refine bodyPost_ret (v:=.tuple #[noTok,.int .i64 0,.int .i64 3]) (by simp [results,Tryz.results25,go_sem,noTok,tokVal]) rfl ⟨by rw [HT'.out],below_alloc _ _⟩
   ·have H0:(signL s.data.toList).isEmpty=false:=by simpa using hs0
    have HT':Hid (tokenL s.data.toList=(tokVal 3 (signL s.data.toList) 0 0,((signL s.data.toList).length:Int),0)):=Lib.hid (HT.out.trans (if_neg hs0))
    clear hs0
    go_enter Tryz.func25,Tryz.ntmps25
    go_wp2_with (first | (go_at_call 57;refine (letterL_any _ _).mono ?_;rintro e w' ⟨rfl,rfl⟩) | (go_at_call 59;refine (digitL_any _ _).mono ?_;rintro e w' ⟨rfl,rfl⟩))
    refine (sign_any s hs h1 _ m (by rw [World.cell?_alloc_lt _ _ _ (by exact h0)];exact hm)).mono ?_
    rintro e w1 ⟨rfl,rfl⟩
    go_wp2_with fail
    refine bodyPost_ret (v:=.tuple #[tokVal 3 (signL s.data.toList) 0 0,.int .i64 (signL s.data.toList).length,.int .i64 0]) (by simp [results,Tryz.results25,go_sem,tokVal]) rfl ⟨by rw [HT'.out],below_alloc _ _⟩
end Go.Proofs.YtdmacgoeikjdbaaGreatDoor
namespace Go.Proofs.YtdmacgoeikjdbaaGreatDoor
open Go.RowKit
def TokensRel (B:Nat) (w:World) (s:ByteArray) (v i:Value) (wr:World):Prop:=
 ∃ (p:Nat) (ts:List Tok) (f:Nat),i=.int .i64 p∧p≤s.size∧wr.ownsRow B 43 4 v ts.length (flat ts)∧ts.length≤p∧Below B w wr∧BlkIs wr B 29 #[.int .i64 0,.int .i64 0]∧s.size - p<f ∧
  scanL f (s.data.toList.drop p) p ts=tokensT s.data.toList
theorem tokens_long (s:ByteArray) (hs:2000<s.size) (w:World) (hb:s.size≤9223372036854775807) :
  Calls Tryz.prog 12 #[.string s] w (TokensPost w.heap.size w ([],2,0)):=by
 go_enter Tryz.func12,Tryz.ntmps12
 go_wp2_with fail
 refine bodyPost_ret (v:=.tuple #[.slice none 0 0,.agg #[.int .i64 2,.int .i64 0]]) (by simp [results,Tryz.results12,go_sem]) rfl ⟨_,rfl,TokRow.nil _ _,below_alloc _ _⟩
set_option maxRecDepth 8000 in
theorem tokens_any (s:ByteArray) (hs:s.size≤2000) (w:World) (m:Int) (hm:w.cell? ⟨0,0,none⟩=some (.int .i64 m)) (h0:0<w.heap.size) :
  Calls Tryz.prog 12 #[.string s] w (TokensPost w.heap.size w (tokensT s.data.toList)):=by
 obtain ⟨i0,hi0,hz0,hz1,hz2⟩:=info_parts tok_info
 have hle:rl isBlank s.data.toList≤s.size:=by have:=rl_le isBlank s.data.toList;simpa using this
 have HT:Hid (tokensT s.data.toList=scanL (s.size + 1) (s.data.toList.drop (rl isBlank s.data.toList)) (rl isBlank s.data.toList) []):=by
  refine Lib.hid ?_
  unfold tokensT;rw [if_neg (by simp;omega)];simp
 go_enter Tryz.func12,Tryz.ntmps12
 go_wp2_with (go_at_call 23;refine (runBlank _ (by omega) _).mono ?_;rintro e w' ⟨rfl,rfl⟩)
 go_loopw [4,5] (fun v i wr=>TokensRel w.heap.size w s v i wr) (fun _ i _=>s.size - (intOf i).toNat)
 case atStart=>exact ⟨_,[],s.size + 1,rfl,hle,⟨by simp [flat],.inl ⟨rfl,rfl⟩⟩,by simp,below_alloc _ _,BlkIs.fresh _ _ _,by omega,HT.out.symm⟩
 case round=>
  obtain ⟨p,ts,f,rfl,hp,hown,hlen,hbw,hblk,hf,hsc⟩:=hrel
  have HS:=Lib.hid hsc
  clear hsc
  by_cases hlt:p<s.size
  ·have hd:=Lib.hid (drop_at s p hlt)
   have hbz:=hblk.lt
   go_wp2_with fail
   refine (token_any (s.extract p s.size) (by simp;omega) (by simp;omega) _ m (by rw [hbw.cell (by exact h0)];exact hm) (by omega)).mono ?_
   rintro e w1 ⟨rfl,hb1⟩
   have hx:tokenL (s.extract p s.size).data.toList=asL (tokenT (s.data.toList.drop p)):=by rw [ext_drop];rfl
   rw [hx]
   have hn:=tokenT_le (s.data.toList.drop p)
   have hn1:=tokenT_pos s[p] (s.data.toList.drop (p + 1))
   rw [← hd.out] at hn1
   obtain ⟨⟨⟨kd,tx,nn,ps⟩,n,er⟩,hr⟩:∃ r,tokenT (s.data.toList.drop p)=r:=⟨_,rfl⟩
   rw [hr] at hn hn1 ⊢
   have HR:=Lib.hid hr
   clear hr hx
   simp only [asL,Tok.val,tokVal]
   simp at hn hn1
   have hblk1:=hblk.below hb1 hbz
   have c0:=hblk1.cell 0
   have c1:=hblk1.cell 1
   simp at c0 c1
   have f0:=hblk1.frozen 0
   have f1:=hblk1.frozen 1
   have hz1':=hb1.size
   have hz1'':=hblk1.lt
   by_cases he:er=0
   ·subst he
    have hn1:=hn1 rfl
    have hown1:=own_below hown hb1
    go_wp2_with (at_builtin;refine wpList_append_own _ rfl (.tmp 34) (.tmp 36) 36 rfl w.heap.size 43 i0 _ 4 40 Tryz.underlying36 hi0 hz0 hz1 hz2 rfl (by decide) _ _ _ rfl ((hown1.alloc _).alloc _) ⟨w1.heap.size + 1,0,none⟩ 1 1 [.int .i64 kd,.string ⟨tx.toArray⟩,.int .i64 nn,.int .i64 p] rfl rfl ?c1 (tok_one _ _ _ _) ?c3 ?c4 ?c5 ?_)
    case c3=>unfold maxLen;omega
    case c4=>omega
    case c5=>(try simp);omega
    intro v2 w2 hown2 hg2 _
    have hblk2:BlkIs w2 w.heap.size 29 #[.int .i64 0,.int .i64 0]:=((hblk1.alloc _).alloc _).grown hg2 (own_ne_blk hown1 hblk1 (by decide))
    have hbw2:Below w.heap.size w w2:=by
     refine Below.grown (Below.alloc (Below.alloc (hbw.trans (hb1.mono (by omega))) (by omega) _) (by simp;omega) _) hg2 (by simp;omega) ?_
     exact own_block_ge hown1
    clear hown1 hown c0 c1 f0 f1
    go_wp2_with fail
    refine (runBlank _ (by simp;omega) _).mono ?_
    rintro e w' ⟨rfl,rfl⟩
    have hy:rl isBlank (s.extract (p + n) s.size).data.toList=rl isBlank (s.data.toList.drop (p + n)):=by rw [ext_drop]
    rw [hy]
    have hy2:=rl_le isBlank (s.data.toList.drop (p + n))
    simp at hy2
    clear hy
    go_wp2_with fail
    go_roundw
    case rel=>
     obtain ⟨f',rfl⟩:∃ f',f=f' + 1:=⟨f - 1,by omega⟩
     refine ⟨p + n + rl isBlank (s.data.toList.drop (p + n)),ts ++ [⟨kd,tx,nn,p⟩],f',by go_num,by omega,?_,by simp;omega,hbw2,hblk2,by omega,?_⟩
     ·rw [List.length_append,flat_snoc];exact hown2
     ·have:=HS.out
      rw [hd.out,scanL,← hd.out,HR.out] at this
      simpa [List.drop_drop,Nat.add_assoc] using this
    case measure=>simp [intOf];omega
   ·have he1:(er == 0)=false:=by simpa using he
    have he2:(er != 0)=true:=by simpa using he
    have HE:Hid (tokensT s.data.toList=([],er,(p:Int))):=by
     refine Lib.hid ?_
     obtain ⟨f',rfl⟩:∃ f',f=f' + 1:=⟨f - 1,by omega⟩
     have:=HS.out
     rw [hd.out,scanL,← hd.out,HR.out] at this
     rw [← this,if_neg (by exact he)]
    clear he
    go_wp2_with fail
    refine bodyPost_ret (v:=.tuple #[.slice none 0 0,.agg #[.int .i64 er,.int .i64 p]]) (by simp [results,Tryz.results12,go_sem,c0,c1,hblk1.lt]) rfl ?_
    rw [HE.out]
    refine ⟨_,rfl,TokRow.nil _ _,?_⟩
    have hb0:Below w.heap.size w w1:=hbw.trans (hb1.mono (by omega))
    repeat (first | exact hb0 | refine Below.drew ?_ | refine Below.setCell ?_ (by simp) _ | refine Below.alloc ?_ (by simp;omega) _)
  ·obtain rfl:p=s.size:=by omega
   have hbz:=hblk.lt
   have HE:Hid (tokensT s.data.toList=(ts ++ [⟨0,[],0,(s.size:Int)⟩],0,0)):=by
    refine Lib.hid ?_
    obtain ⟨f',rfl⟩:∃ f',f=f' + 1:=⟨f - 1,by omega⟩
    have:=HS.out
    rw [List.drop_of_length_le (by simp),scanL] at this
    exact this.symm
   go_wp2_with (at_builtin;refine wpList_append_own _ rfl (.tmp 47) (.tmp 51) 36 rfl w.heap.size 43 i0 _ 4 40 Tryz.underlying36 hi0 hz0 hz1 hz2 rfl (by decide) _ _ _ rfl (hown.alloc _) ⟨wr.heap.size,0,none⟩ 1 1 [.int .i64 0,.string ⟨#[]⟩,.int .i64 0,.int .i64 s.size] rfl rfl ?d1 (tok_one _ _ _ _) ?d3 ?d4 ?d5 ?_)
   case d1=>exact (BlkIs.fresh _ _ _).cells rfl
   case d3=>unfold maxLen;omega
   case d4=>omega
   case d5=>(try simp);omega
   intro v' w2 hown2 hg2 _
   have hblk2:BlkIs w2 w.heap.size 29 #[.int .i64 0,.int .i64 0]:=(hblk.alloc _).grown hg2 (own_ne_blk hown hblk (by decide))
   have hbw2:Below w.heap.size w w2:=Below.grown (Below.alloc hbw (by omega) _) hg2 (by simp;omega) (own_block_ge hown)
   have c0:=hblk2.cell 0
   have c1:=hblk2.cell 1
   simp at c0 c1
   have f0:=hblk2.frozen 0
   have f1:=hblk2.frozen 1
   have hz2':=hblk2.lt
   go_wp2_with fail
   refine bodyPost_ret (v:=.tuple #[v',.agg #[.int .i64 0,.int .i64 0]]) (by simp [results,Tryz.results12,go_sem,c0,c1]) rfl ?_
   rw [HE.out]
   refine ⟨_,rfl,?_,?_⟩
   ·unfold TokRow;rw [List.length_append,flat_snoc]
    exact own_far (own_far hown2 (own_ne_blk hown2 hblk2 (by decide)) _) (own_ne_blk hown2 hblk2 (by decide)) _
   ·repeat (first | exact hbw2 | refine Below.drew ?_ | refine Below.setCell ?_ (by simp) _ | refine Below.alloc ?_ (by simp;omega) _)
end Go.Proofs.YtdmacgoeikjdbaaGreatDoor
namespace Go.Proofs.YtdmacgoeikjdbaaGreatDoor
open Go.RowKit
end Go.Proofs.YtdmacgoeikjdbaaGreatDoor
namespace Go.Proofs.YtdmacgoeikjdbaaGreatDoor
open Go.RowKit
structure Ty where
 kind:Int
 ptr:Int
 len:Int
def noTy:Ty:=⟨0,0,0⟩
inductive Ex where
 | mk (op:Int) (ty:Ty) (name:List UInt8) (n:Int) (kids:List Ex) (pos:Int)
def Ex.op:Ex→Int | .mk o _ _ _ _ _=>o
def Ex.ty:Ex→Ty | .mk _ t _ _ _ _=>t
def Ex.name:Ex→List UInt8 | .mk _ _ s _ _ _=>s
def Ex.n:Ex→Int | .mk _ _ _ n _ _=>n
def Ex.kids:Ex→List Ex | .mk _ _ _ _ k _=>k
def Ex.pos:Ex→Int | .mk _ _ _ _ _ p=>p
def noEx:Ex:=.mk 0 noTy [] 0 [] 0
inductive St where
 | mk (op:Int) (ex:List Ex) (body:List St) (ty:Ty) (name:List UInt8) (n:Int) (pos:Int)
def St.op:St→Int | .mk o _ _ _ _ _ _=>o
def St.ex:St→List Ex | .mk _ e _ _ _ _ _=>e
def St.body:St→List St | .mk _ _ b _ _ _ _=>b
def St.ty:St→Ty | .mk _ _ _ t _ _ _=>t
def St.name:St→List UInt8 | .mk _ _ _ _ s _ _=>s
def St.n:St→Int | .mk _ _ _ _ _ n _=>n
def St.pos:St→Int | .mk _ _ _ _ _ _ p=>p
structure De where
 name:List UInt8
 ty:Ty
 init:List Int
 pos:Int
structure Fn where
 name:List UInt8
 ret:Ty
 params:List De
 body:List St
 locals:List De
 pos:Int
structure Un where
 globals:List De
 funcs:List Fn
def tyV (t:Ty):List Value:=[.int .i64 t.kind,.int .i64 t.ptr,.int .i64 t.len]
def strV8 (s:List UInt8):Value:=.string ⟨s.toArray⟩
mutual
def encEx:Ex→D
 | .mk o t s n ks p=>.st [.int .i64 o,.int .i64 t.kind,.int .i64 t.ptr,.int .i64 t.len,.str s,.int .i64 n,.lst 8 (encExs ks),.int .i64 p]
def encExs:List Ex→List D
 | []=>[]
 | x :: l=>encEx x :: encExs l
end
theorem encExs_map:∀ l:List Ex,encExs l=l.map encEx
 | []=>by simp [encExs]
 | x :: l=>by simp [encExs,encExs_map l]
theorem encEx_eq (x:Ex):encEx x=.st [.int .i64 x.op,.int .i64 x.ty.kind,.int .i64 x.ty.ptr,.int .i64 x.ty.len,.str x.name,.int .i64 x.n,.lst 8 (x.kids.map encEx),.int .i64 x.pos]:=by
 cases x
 simp only [encEx,encExs_map]
 rfl
mutual
def encSt:St→D
 | .mk o e b t s n p=>.st [.int .i64 o,.lst 8 (e.map encEx),.lst 9 (encSts b),.int .i64 t.kind,.int .i64 t.ptr,.int .i64 t.len,.str s,.int .i64 n,.int .i64 p]
def encSts:List St→List D
 | []=>[]
 | x :: l=>encSt x :: encSts l
end
theorem encSts_map:∀ l:List St,encSts l=l.map encSt
 | []=>by simp [encSts]
 | x :: l=>by simp [encSts,encSts_map l]
theorem encSt_eq (x:St):encSt x=.st [.int .i64 x.op,.lst 8 (x.ex.map encEx),.lst 9 (x.body.map encSt),.int .i64 x.ty.kind,.int .i64 x.ty.ptr,.int .i64 x.ty.len,.str x.name,.int .i64 x.n,.int .i64 x.pos]:=by
 cases x
 simp only [encSt,encSts_map]
 rfl
def encDe (d:De):D:=.st [.str d.name,.int .i64 d.ty.kind,.int .i64 d.ty.ptr,.int .i64 d.ty.len,.lst 1 (d.init.map (.int .i64)),.int .i64 d.pos]
def encFn (f:Fn):D:=.st [.str f.name,.int .i64 f.ret.kind,.int .i64 f.ret.ptr,.int .i64 f.ret.len,.lst 6 (f.params.map encDe),.lst 9 (f.body.map encSt),.lst 6 (f.locals.map encDe),.int .i64 f.pos]
def encUn (u:Un):D:=.st [.lst 6 (u.globals.map encDe),.lst 8 (u.funcs.map encFn)]
def encTok (t:Tok):D:=.st [.int .i64 t.kind,.str t.text,.int .i64 t.n,.int .i64 t.pos]
def exC (x:Ex) (A:Option Addr) (c:Nat):List Value:=[.int .i64 x.op,.int .i64 x.ty.kind,.int .i64 x.ty.ptr,.int .i64 x.ty.len,strV8 x.name,.int .i64 x.n,.slice A x.kids.length c,.int .i64 x.pos]
def stC (x:St) (A:Option Addr) (c:Nat) (B:Option Addr) (d:Nat):List Value:=[.int .i64 x.op,.slice A x.ex.length c,.slice B x.body.length d,.int .i64 x.ty.kind,.int .i64 x.ty.ptr,.int .i64 x.ty.len,strV8 x.name,.int .i64 x.n,.int .i64 x.pos]
def tokC (t:Tok):List Value:=[.int .i64 t.kind,strV8 t.text,.int .i64 t.n,.int .i64 t.pos]
theorem repAll_nil {w:World} {ok:Nat→Prop} {cs:List Value} (h:RepAll w ok [] cs):cs=[]:=by unfold RepAll at h;exact h
theorem repAll_int {w:World} {ok:Nat→Prop} {k:IntKind} {n:Int} {ds:List D} {cs:List Value}:RepAll w ok (.int k n :: ds) cs ↔ ∃ b,cs=.int k n :: b∧RepAll w ok ds b:=by
 constructor
 ·intro h
  unfold RepAll at h
  obtain ⟨a,b,rfl,h1,h2⟩:=h
  unfold Rep at h1
  exact ⟨b,by rw [h1];rfl,h2⟩
 ·rintro ⟨b,rfl,h⟩
  unfold RepAll
  exact ⟨[.int k n],b,rfl,by unfold Rep;rfl,h⟩
theorem repAll_str {w:World} {ok:Nat→Prop} {s:List UInt8} {ds:List D} {cs:List Value}:RepAll w ok (.str s :: ds) cs ↔ ∃ b,cs=strV8 s :: b∧RepAll w ok ds b:=by
 constructor
 ·intro h
  unfold RepAll at h
  obtain ⟨a,b,rfl,h1,h2⟩:=h
  unfold Rep at h1
  exact ⟨b,by rw [h1];rfl,h2⟩
 ·rintro ⟨b,rfl,h⟩
  unfold RepAll
  exact ⟨[strV8 s],b,rfl,by unfold Rep;rfl,h⟩
theorem repAll_lst {w:World} {ok:Nat→Prop} {z:Nat} {xs ds:List D} {cs:List Value}:RepAll w ok (.lst z xs :: ds) cs ↔ ∃ A c b,cs=.slice A xs.length c :: b∧Rep w ok (.lst z xs) [.slice A xs.length c]∧RepAll w ok ds b:=by
 constructor
 ·intro h
  unfold RepAll at h
  obtain ⟨a,b,rfl,h1,h2⟩:=h
  have h1':=h1
  unfold Rep at h1
  obtain ⟨A,c,rfl,_⟩:=h1
  exact ⟨A,c,b,rfl,h1',h2⟩
 ·rintro ⟨A,c,b,rfl,h1,h⟩
  unfold RepAll
  exact ⟨[.slice A xs.length c],b,rfl,h1,h⟩
theorem rep_ex {w:World} {ok:Nat→Prop} {x:Ex} {cs:List Value}:Rep w ok (encEx x) cs ↔ ∃ A c,cs=exC x A c∧Rep w ok (.lst 8 (x.kids.map encEx)) [.slice A x.kids.length c]:=by
 rw [encEx_eq]
 constructor
 ·intro h
  unfold Rep at h
  obtain ⟨_,rfl,q1⟩:=repAll_int.1 h
  obtain ⟨_,rfl,q2⟩:=repAll_int.1 q1
  obtain ⟨_,rfl,q3⟩:=repAll_int.1 q2
  obtain ⟨_,rfl,q4⟩:=repAll_int.1 q3
  obtain ⟨_,rfl,q5⟩:=repAll_str.1 q4
  obtain ⟨_,rfl,q6⟩:=repAll_int.1 q5
  obtain ⟨A,c,_,rfl,h1,q7⟩:=repAll_lst.1 q6
  obtain ⟨_,rfl,q8⟩:=repAll_int.1 q7
  obtain rfl:=repAll_nil q8
  rw [List.length_map] at h1
  exact ⟨A,c,by simp [exC],h1⟩
 ·rintro ⟨A,c,rfl,h⟩
  unfold Rep
  have e:(x.kids.map encEx).length=x.kids.length:=List.length_map _
  exact repAll_int.2 ⟨_,rfl,repAll_int.2 ⟨_,rfl,repAll_int.2 ⟨_,rfl,repAll_int.2 ⟨_,rfl,repAll_str.2 ⟨_,rfl,repAll_int.2 ⟨_,rfl,repAll_lst.2 ⟨A,c,_,by rw [e],by rw [e];exact h,repAll_int.2 ⟨_,rfl,by unfold RepAll;rfl⟩⟩⟩⟩⟩⟩⟩⟩
theorem rep_st {w:World} {ok:Nat→Prop} {x:St} {cs:List Value}:Rep w ok (encSt x) cs ↔ ∃ A c B d,cs=stC x A c B d∧Rep w ok (.lst 8 (x.ex.map encEx)) [.slice A x.ex.length c]∧Rep w ok (.lst 9 (x.body.map encSt)) [.slice B x.body.length d]:=by
 rw [encSt_eq]
 constructor
 ·intro h
  unfold Rep at h
  obtain ⟨_,rfl,q9⟩:=repAll_int.1 h
  obtain ⟨A,c,_,rfl,h1,q10⟩:=repAll_lst.1 q9
  obtain ⟨B,d,_,rfl,h2,q11⟩:=repAll_lst.1 q10
  obtain ⟨_,rfl,q12⟩:=repAll_int.1 q11
  obtain ⟨_,rfl,q13⟩:=repAll_int.1 q12
  obtain ⟨_,rfl,q14⟩:=repAll_int.1 q13
  obtain ⟨_,rfl,q15⟩:=repAll_str.1 q14
  obtain ⟨_,rfl,q16⟩:=repAll_int.1 q15
  obtain ⟨_,rfl,q17⟩:=repAll_int.1 q16
  obtain rfl:=repAll_nil q17
  rw [List.length_map] at h1 h2
  exact ⟨A,c,B,d,by simp [stC],h1,h2⟩
 ·rintro ⟨A,c,B,d,rfl,h1,h2⟩
  unfold Rep
  have e1:(x.ex.map encEx).length=x.ex.length:=List.length_map _
  have e2:(x.body.map encSt).length=x.body.length:=List.length_map _
  exact repAll_int.2 ⟨_,rfl,repAll_lst.2 ⟨A,c,_,by rw [e1],by rw [e1];exact h1,repAll_lst.2 ⟨B,d,_,by rw [e2],by rw [e2];exact h2,repAll_int.2 ⟨_,rfl,repAll_int.2 ⟨_,rfl,repAll_int.2 ⟨_,rfl,repAll_str.2 ⟨_,rfl,repAll_int.2 ⟨_,rfl,repAll_int.2 ⟨_,rfl,by unfold RepAll;rfl⟩⟩⟩⟩⟩⟩⟩⟩⟩
theorem rep_tok {w:World} {ok:Nat→Prop} {t:Tok} {cs:List Value}:Rep w ok (encTok t) cs ↔ cs=tokC t:=by
 unfold encTok
 constructor
 ·intro h
  unfold Rep at h
  obtain ⟨_,rfl,q18⟩:=repAll_int.1 h
  obtain ⟨_,rfl,q19⟩:=repAll_str.1 q18
  obtain ⟨_,rfl,q20⟩:=repAll_int.1 q19
  obtain ⟨_,rfl,q21⟩:=repAll_int.1 q20
  obtain rfl:=repAll_nil q21
  rfl
 ·rintro rfl
  unfold Rep
  exact repAll_int.2 ⟨_,rfl,repAll_str.2 ⟨_,rfl,repAll_int.2 ⟨_,rfl,repAll_int.2 ⟨_,rfl,by unfold RepAll;rfl⟩⟩⟩⟩
end Go.Proofs.YtdmacgoeikjdbaaGreatDoor
namespace Go.Proofs.YtdmacgoeikjdbaaGreatDoor
open Go.RowKit
structure RS where
 ts:List Tok
 err:Int
 pos:Int
def hdT:List Tok→Tok
 | []=>noTokT
 | t :: _=>t
def rok (s:RS):Bool:=s.err == 0
def isT (x:List UInt8) (t:Tok):Bool:=(t.kind == 3 || t.kind == 4) && t.text == x
def ris (x:List UInt8) (s:RS):Bool:=isT x (hdT s.ts)
def bVoid:List UInt8:=[118,111,105,100]
def bUnsigned:List UInt8:=[117,110,115,105,103,110,101,100]
def bChar:List UInt8:=[99,104,97,114]
def bShort:List UInt8:=[115,104,111,114,116]
def bInt:List UInt8:=[105,110,116]
def bLong:List UInt8:=[108,111,110,103]
def typeWords:List (List UInt8):=[bVoid,bChar,bShort,bInt,bLong,bUnsigned]
def isTy (t:Tok):Bool:=t.kind == 4 && decide (t.text ∈ typeWords)
def lookS (x:List UInt8):List (List UInt8 × Int)→Int
 | []=>0
 | (y,n) :: l=>if y=x then n else lookS x l
def assignL:List (List UInt8 × Int):=[([42,61],15),([47,61],16),([37,61],17),([43,61],18),([45,61],19),([60,60,61],20),([62,62,61],21),([38,61],28),([94,61],29),([124,61],30)]
def rassigns (x:List UInt8):Int:=lookS x assignL
def levels:List (List (List UInt8 × Int)):=
 [[([124,124],32)],[([38,38],31)],[([124],30)],[([94],29)],[([38],28)],[([61,61],26),([33,61],27)],[([60],22),([62],24),([60,61],23),([62,61],25)],
  [([60,60],20),([62,62],21)],[([43],18),([45],19)],[([42],15),([47],16),([37],17)]]
def rlevel (n:Nat) (x:List UInt8):Int:=lookS x (levels.getD n [])
def prefixes:List (List UInt8 × Int):=[([45],6),([126],7),([33],8),([42],4),([38],5),([43,43],11),([45,45],12)]
def bSizeof:List UInt8:=[115,105,122,101,111,102]
def bIf:List UInt8:=[105,102]
def bElse:List UInt8:=[101,108,115,101]
def bWhile:List UInt8:=[119,104,105,108,101]
def bSwitch:List UInt8:=[115,119,105,116,99,104]
def bDo:List UInt8:=[100,111]
def bFor:List UInt8:=[102,111,114]
def bCase:List UInt8:=[99,97,115,101]
def bDefault:List UInt8:=[100,101,102,97,117,108,116]
def bBreak:List UInt8:=[98,114,101,97,107]
def bContinue:List UInt8:=[99,111,110,116,105,110,117,101]
def bReturn:List UInt8:=[114,101,116,117,114,110]
def bGoto:List UInt8:=[103,111,116,111]
def Wf:List Tok→Prop
 | []=>False
 | [t]=>t.kind=0
 | t :: l=>t.kind ≠ 0∧Wf l
end Go.Proofs.YtdmacgoeikjdbaaGreatDoor
namespace Go.Proofs.YtdmacgoeikjdbaaGreatDoor
open Go.RowKit
section
variable {w w':World} {g:Nat} {gv fv:Value} {s:RS}
end
end Go.Proofs.YtdmacgoeikjdbaaGreatDoor
namespace Go.Proofs.YtdmacgoeikjdbaaGreatDoor
open Go.RowKit
end Go.Proofs.YtdmacgoeikjdbaaGreatDoor
namespace Go.Proofs.YtdmacgoeikjdbaaGreatDoor
open Go.RowKit
end Go.Proofs.YtdmacgoeikjdbaaGreatDoor
namespace Go.Proofs.YtdmacgoeikjdbaaGreatDoor
open Go.RowKit
end Go.Proofs.YtdmacgoeikjdbaaGreatDoor
namespace Go.Proofs.YtdmacgoeikjdbaaGreatDoor
open Go.RowKit
end Go.Proofs.YtdmacgoeikjdbaaGreatDoor
namespace Go.Proofs.YtdmacgoeikjdbaaGreatDoor
open Go.RowKit
end Go.Proofs.YtdmacgoeikjdbaaGreatDoor
namespace Go.Proofs.YtdmacgoeikjdbaaGreatDoor
open Go.RowKit
end Go.Proofs.YtdmacgoeikjdbaaGreatDoor
namespace Go.Proofs.YtdmacgoeikjdbaaGreatDoor
open Go.RowKit
end Go.Proofs.YtdmacgoeikjdbaaGreatDoor
namespace Go.Proofs.YtdmacgoeikjdbaaGreatDoor
open Go.RowKit
def DepthOk (d:Int) (f:Nat):Prop:=0≤d∧d + f≤1000000
end Go.Proofs.YtdmacgoeikjdbaaGreatDoor
namespace Go.Proofs.YtdmacgoeikjdbaaGreatDoor
open Go.RowKit
end Go.Proofs.YtdmacgoeikjdbaaGreatDoor
namespace Go.Proofs.YtdmacgoeikjdbaaGreatDoor
open Go.RowKit
end Go.Proofs.YtdmacgoeikjdbaaGreatDoor
namespace Go.Proofs.YtdmacgoeikjdbaaGreatDoor
open Go.RowKit
end Go.Proofs.YtdmacgoeikjdbaaGreatDoor
namespace Go.Proofs.YtdmacgoeikjdbaaGreatDoor
open Go.RowKit
end Go.Proofs.YtdmacgoeikjdbaaGreatDoor

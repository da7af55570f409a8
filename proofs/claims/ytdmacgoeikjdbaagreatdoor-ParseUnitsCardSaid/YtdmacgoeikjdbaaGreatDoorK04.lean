/- The reference's Tokens walked. -/
import Derived.Test.YtdmacgoeikjdbaaGreatDoorK05
import Derived.Test.YtdmacgoeikjdbaaGreatDoorK01
import Derived.Test.YtdmacgoeikjdbaaGreatDoorK02
import Derived.BigQuiet
import Derived.IntWalk
import Derived.Deep.CutBlock
import Derived.Deep.DeepCutAuto
import Derived.Deep.RegionWith
import Derived.Deep.QuietTactic
set_option maxHeartbeats 6000000
namespace Go.Proofs.YtdmacgoeikjdbaaGreatDoor
open Go.RowKit
set_option maxRecDepth 100000 in
theorem tokensR_long (s:ByteArray) (hs:2000<s.size) (w:World) (hb:s.size≤9223372036854775807) :
  Calls Tryz.prog 16 #[.string s] w (TokensPost w.heap.size w ([],2,0)):=by
 go_enter Tryz.func16,Tryz.ntmps16
 go_wp2_with fail
 refine bodyPost_ret (v:=.tuple #[.slice none 0 0,.agg #[.int .i64 2,.int .i64 0]]) (by simp [results,Tryz.results16,go_sem]) rfl ⟨_,rfl,TokRow.nil _ _,below_alloc _ _⟩
def RefRel (B:Nat) (w:World) (s:ByteArray) (v i:Value) (wr:World):Prop:=
 ∃ (p:Nat) (ts:List Tok) (f:Nat),i=.int .i64 p∧p≤s.size∧TokRow wr B v ts∧ts.length≤p∧Below B w wr∧BlkIs wr B 29 #[.int .i64 0,.int .i64 0]∧s.size - p<f ∧
  scanR f (s.data.toList.drop p) p ts=tokensR s.data.toList
set_option maxRecDepth 100000 in
theorem tokensR_any (s:ByteArray) (hs:s.size≤2000) (w:World) :
  Calls Tryz.prog 16 #[.string s] w (TokensPost w.heap.size w (tokensR s.data.toList)):=by
 obtain ⟨i0,hi0,hz0,hz1,hz2⟩:=info_parts tok_info
 have HT:Hid (tokensR s.data.toList=scanR (s.size + 1) s.data.toList 0 []):=by
  refine Lib.hid ?_
  unfold tokensR;rw [if_neg (by simp;omega)];simp
 go_enter Tryz.func16,Tryz.ntmps16
 go_wp2_with fail
 go_loopw [4,5] (fun v i wr=>RefRel w.heap.size w s v i wr) (fun _ i _=>s.size - (intOf i).toNat)
 case atStart=>exact ⟨0,[],s.size + 1,rfl,by omega,TokRow.nil _ _,by simp,below_alloc _ _,BlkIs.fresh _ _ _,by omega,by simpa using HT.out.symm⟩
 case round=>
  obtain ⟨p,ts,f,rfl,hp,hown,hlen,hbw,hblk,hf,hsc⟩:=hrel
  have HS:=Lib.hid hsc
  clear hsc
  have hbz:=hblk.lt
  obtain ⟨wo,rfl⟩:∃ wo:World,wo=wr:=⟨_,rfl⟩
  obtain ⟨f',rfl⟩:∃ f',f=f' + 1:=⟨f - 1,by omega⟩
  by_cases hlt:p<s.size
  ·have hd:=Lib.hid (drop_at s p hlt)
   by_cases hb:isBlank s[p].toNat=true
   ·as_aux_lemma=>
    have HB:Hid (scanR f' (s.data.toList.drop (p + 1)) (p + 1) ts=tokensR s.data.toList):=by
     have:=HS.out;rw [hd.out,scanR,if_pos hb] at this;exact Lib.hid this
    have hc:s[p].toNat=32 ∨ s[p].toNat=9 ∨ s[p].toNat=10 ∨ s[p].toNat=13:=by simp [isBlank] at hb;omega
    clear hb
    go_wp2_with fail
    all_goals
     go_roundw
     case rel=>exact ⟨p + 1,ts,f',by go_num,by omega,hown,by omega,hbw,hblk,by omega,HB.out⟩
     case measure=>simp [intOf];omega
   ·have b1:((s[p].toNat:Int) == 32)=false:=by simp [isBlank] at hb ⊢;omega
    have b2:((s[p].toNat:Int) == 9)=false:=by simp [isBlank] at hb ⊢;omega
    have b3:((s[p].toNat:Int) == 10)=false:=by simp [isBlank] at hb ⊢;omega
    have b4:((s[p].toNat:Int) == 13)=false:=by simp [isBlank] at hb ⊢;omega
    have HB:Hid ((if (tokenR (s.data.toList.drop p)).2.2=0 then scanR f' ((s.data.toList.drop p).drop (tokenR (s.data.toList.drop p)).2.1) (p + (tokenR (s.data.toList.drop p)).2.1) (ts ++ [{ (tokenR (s.data.toList.drop p)).1 with pos:=(p:Int) }])
      else ([],(tokenR (s.data.toList.drop p)).2.2,(p:Int)))=tokensR s.data.toList):=by
     have:=HS.out;rw [hd.out,scanR,if_neg hb,← hd.out] at this;exact Lib.hid this
    clear hb HS
    have hg:Hid ((s.data.toList.drop p).getD 0 0=s[p]):=by rw [hd.out];exact Lib.hid rfl
    by_cases hl:isLetter s[p].toNat=true
    ·as_aux_lemma=>
     have HK:Hid (tokenR (s.data.toList.drop p)=(nameR (s.data.toList.drop p),rl isBoth (s.data.toList.drop p),0)):=by
      unfold tokenR;rw [hg.out,if_pos hl];exact Lib.hid rfl
     have hr1:=rl_le isBoth (s.data.toList.drop p)
     simp at hr1
     go_upto_block 5 with (go_at_call 33;refine (letterR_any _ _).mono ?_;rintro e w' ⟨rfl,rfl⟩)
     go_cut [5] (fun s5 wx=>∃ q:Nat,wo=wx∧s5=.int .i64 q∧p≤q∧q≤s.size∧Hid (q=p + rl isBoth (s.data.toList.drop p)))
     case first=>
      go_wp2_with fail
      go_loop [5] (fun i=>∃ q:Nat,p≤q∧q≤s.size∧i=.int .i64 q∧Hid (q + rl isBoth (s.data.toList.drop q)=p + rl isBoth (s.data.toList.drop p))) (fun i=>s.size - (intOf i).toNat)
      case atStart=>exact ⟨p,Nat.le_refl _,hp,rfl,Lib.hid rfl⟩
      case round=>
       obtain ⟨q,hpq,hqs,rfl,hr⟩:=hrel
       by_cases hcont:∃ h:q<s.size,isBoth s[q].toNat=true
       ·obtain ⟨hkl,hL⟩:=hcont
        have hdk:=Lib.hid (drop_at s q hkl)
        have hr':Hid (q + 1 + rl isBoth (s.data.toList.drop (q + 1))=p + rl isBoth (s.data.toList.drop p)):=by
         have:=hr.out;rw [hdk.out,rl_cons,if_pos hL] at this;exact Lib.hid (by omega)
        unfold isBoth at hL
        by_cases hL1:isLetter s[q].toNat=true
        ·clear hL
         go_wp2_with (go_at_call 33;refine (letterR_any _ _).mono ?_;rintro e w' ⟨rfl,rfl⟩)
         go_round
         case rel=>exact ⟨q + 1,by omega,by omega,by go_num,hr'⟩
         case measure=>simp [intOf];omega
        ·have hL1:isLetter s[q].toNat=false:=by simpa using hL1
         have hL2:isDigit s[q].toNat=true:=by simpa [hL1] using hL
         clear hL
         go_wp2_with (first | (go_at_call 33;refine (letterR_any _ _).mono ?_;rintro e w' ⟨rfl,rfl⟩) | (go_at_call 34;refine (digitR_any _ _).mono ?_;rintro e w' ⟨rfl,rfl⟩))
         go_round
         case rel=>exact ⟨q + 1,by omega,by omega,by go_num,hr'⟩
         case measure=>simp [intOf];omega
       ·have hex:(∃ h:q<s.size,isLetter s[q].toNat=false∧isDigit s[q].toNat=false) ∨ s.size≤q:=by
         by_cases h:q<s.size
         ·refine .inl ⟨h,?_⟩
          have:isBoth s[q].toNat=false:=by simpa using fun hh=>hcont ⟨h,hh⟩
          simpa [isBoth] using this
         ·exact .inr (by omega)
        have hq:Hid (q=p + rl isBoth (s.data.toList.drop p)):=by
         refine Lib.hid ?_
         have h1:=hr.out
         by_cases h:q<s.size
         ·rw [drop_at s q h,rl_cons,if_neg (fun hh=>hcont ⟨h,hh⟩)] at h1;omega
         ·rw [List.drop_of_length_le (by simp;omega),rl_nil] at h1;omega
        clear hcont hr
        rcases hex with ⟨hkl,hL1,hL2⟩ | hkl
        all_goals
         go_wp2_with (first | (go_at_call 33;refine (letterR_any _ _).mono ?_;rintro e w' ⟨rfl,rfl⟩) | (go_at_call 34;refine (digitR_any _ _).mono ?_;rintro e w' ⟨rfl,rfl⟩))
         go_meet
         exact ⟨q,rfl,rfl,hpq,hqs,hq⟩
     case rest=>
      obtain ⟨q,rfl,rfl,hpq,hqs,hq⟩:=hcut
      have hpq1:p<q:=by
       have h1:=hq.out
       have h2:0<rl isBoth (s.data.toList.drop p):=by rw [hd.out];exact rl_pos (by simp [isBoth,hl])
       omega
      obtain ⟨tx,htx⟩:∃ tx,Hid (s.extract p q=⟨List.toArray tx⟩):=⟨(s.extract p q).data.toList,Lib.hid rfl⟩
      obtain ⟨b,hbm⟩:∃ b,Hid (b=decide ((s.extract p q).data.toList ∈ wordsR)):=⟨_,Lib.hid rfl⟩
      have HK2:Hid (scanR f' (s.data.toList.drop q) q (ts ++ [⟨if b then 4 else 1,tx,0,p⟩])=tokensR s.data.toList):=by
       have h1:=HB.out
       rw [HK.out] at h1
       simp only [nameR,if_true,List.drop_drop] at h1
       have h2:(s.extract p q).data.toList=(s.data.toList.drop p).take (rl isBoth (s.data.toList.drop p)):=by
        have:=hq.out
        simp only [ByteArray.data_extract,Array.toList_extract]
        simp
        rw [show q - p=rl isBoth (s.data.toList.drop p) from by omega]
       refine Lib.hid ?_
       have h3:tx=(s.data.toList.drop p).take (rl isBoth (s.data.toList.drop p)):=by rw [← h2,htx.out]
       rw [hbm.out,h2,h3,hq.out]
       simpa using h1
      go_upto_region 22 with fail
      go_cut [131] (fun s131 wx=>s131=.bool b∧BlkIs wx wo.heap.size 43 #[.int .i64 1,.string (s.extract p q),.int .i64 0,.int .i64 p]∧Below wo.heap.size wo wx∧wo.heap.size<wx.heap.size)
      case first=>
       go_region_with ((first | (go_at_call 36;refine (words_any _).mono ?_;rintro e w' ⟨rfl,rfl⟩) | (go_at_call 35;refine (amongW _ _ _ _ hbm (by exact BlkIs.drew (BlkIs.fresh1 _ _ _ _))).mono ?_;rintro e w' ⟨rfl,rfl⟩)))
       all_goals
        go_wp2_with fail
        go_meet
        exact ⟨rfl,((BlkIs.fresh _ _ _).alloc _).drew,((below_alloc _ _).alloc (by simp) _).drew,by simp;omega⟩
      case rest=>
       obtain ⟨rfl,hb34,hbo,hlt2⟩:=hcut
       have hown2:=hown.below hbo
       have hne:=hown.ne_far (Nat.le_refl _)
       have hblk2:=hblk.below hbo hbz
       have hlt3:=hblk2.lt
       have c0:=hb34.cell 0
       have c1:=hb34.cell 1
       have c2:=hb34.cell 2
       have c3:=hb34.cell 3
       simp at c0 c1 c2 c3
       have g0:=hb34.frozen 0
       have hbw2:Below w.heap.size w wc:=hbw.trans (hbo.mono (by omega))
       cases b
       ·go_wp2_with (at_builtin;refine append_tok rfl (.tmp 133) (.tmp 135) rfl w.heap.size _ ts ⟨1,tx,0,p⟩ rfl wc.heap.size rfl (hown2.alloc _) (BlkIs.fresh _ _ _) (by rw [htx.out];rfl) (by omega) (by simp;omega) ?_)
        intro v2 w2 hown3 hbel hoth
        go_wp2_with fail
        go_roundw
        case rel=>exact ⟨q,_,f',rfl,hqs,hown3,by simp;omega,(hbw2.alloc (by omega) _).trans hbel,hoth _ _ _ (by decide) (hblk2.alloc _),by omega,HK2.out⟩
        case measure=>simp [intOf];omega
       ·have hown4:TokRow (wc.setCell ⟨wo.heap.size,0,none⟩ (.int .i64 4)) w.heap.size u4 ts:=hown2.far hne _
        have hfr:BlkIs ((wc.setCell ⟨wo.heap.size,0,none⟩ (.int .i64 4)).alloc (.cells #[.int .i64 4,.string (s.extract p q),.int .i64 0,.int .i64 p] 43)) wc.heap.size 43 #[.int .i64 4,.string (s.extract p q),.int .i64 0,.int .i64 p]:=by simpa using BlkIs.fresh (wc.setCell ⟨wo.heap.size,0,none⟩ (.int .i64 4)) 43 #[.int .i64 4,.string (s.extract p q),.int .i64 0,.int .i64 p]
        go_wp2_with (at_builtin;go_must (refine append_tok rfl (.tmp 133) (.tmp 135) rfl w.heap.size _ ts ⟨4,tx,0,p⟩ rfl wc.heap.size rfl (hown4.alloc _) hfr (by rw [htx.out];rfl) (by omega) (by simp;omega) ?_))
        intro v2 w2 hown3 hbel hoth
        go_wp2_with fail
        go_roundw
        case rel=>exact ⟨q,_,f',rfl,hqs,hown3,by simp;omega,((hbw2.setCell (by simp;omega) _).alloc (by simp;omega) _).trans hbel,hoth _ _ _ (by decide) ((hblk2.far (by simp;omega) _).alloc _),by omega,HK2.out⟩
        case measure=>simp [intOf];omega
    ·have hl':isLetter s[p].toNat=false:=by simpa using hl
     by_cases hdg:isDigit s[p].toNat=true
     ·as_aux_lemma=>
      have HK:Hid (tokenR (s.data.toList.drop p)=numberT (s.data.toList.drop p)):=by
       unfold tokenR;rw [hg.out,if_neg hl,if_pos hdg];exact Lib.hid rfl
      clear hl
      go_upto_block 7 with (first | (go_at_call 33;refine (letterR_any _ _).mono ?_;rintro e w' ⟨rfl,rfl⟩) | (go_at_call 34;refine (digitR_any _ _).mono ?_;rintro e w' ⟨rfl,rfl⟩))
      go_cut [5,9,10] (fun s5 s9 s10 wx=>∃ (q:Nat) (y:Int) (b:Bool),wo=wx∧s5=.int .i64 q∧s9=.int .u64 y∧s10=.bool b∧p≤q∧q≤s.size∧Hid (q=p + rl isDigit (s.data.toList.drop p)) ∧
       Hid (if b then numFold (digits (s.data.toList.drop p)) 0=none else 0≤y∧y≤9223372036854775807∧numFold (digits (s.data.toList.drop p)) 0=some y))
      case first=>
       go_wp2_with fail
       go_loop [5,9,10,11] (fun i n bg _=>∃ (q:Nat) (y:Int) (b:Bool),p≤q∧q≤s.size∧i=.int .i64 q∧n=.int .u64 y∧bg=.bool b∧Hid (q + rl isDigit (s.data.toList.drop q)=p + rl isDigit (s.data.toList.drop p)) ∧
        Hid (if b then numFold (digits (s.data.toList.drop p)) 0=none else 0≤y∧y≤9223372036854775807∧numFold ((digits (s.data.toList.drop p)).drop (q - p)) y=numFold (digits (s.data.toList.drop p)) 0)) (fun i _ _ _=>s.size - (intOf i).toNat)
       case atStart=>exact ⟨p,0,false,Nat.le_refl _,hp,rfl,rfl,rfl,Lib.hid rfl,Lib.hid (by simp)⟩
       case round=>
        obtain ⟨q,y,b,hpq,hqs,rfl,rfl,rfl,hr,hy⟩:=hrel
        by_cases hcont:∃ h:q<s.size,isDigit s[q].toNat=true
        ·obtain ⟨hkl,hL⟩:=hcont
         have hdk:=Lib.hid (drop_at s q hkl)
         have hr':Hid (q + 1 + rl isDigit (s.data.toList.drop (q + 1))=p + rl isDigit (s.data.toList.drop p)):=by
          have:=hr.out;rw [hdk.out,rl_cons,if_pos hL] at this;exact Lib.hid (by omega)
         have h48:48≤(s[q].toNat:Int)∧(s[q].toNat:Int)≤57:=by
          simp [isDigit] at hL;omega
         obtain ⟨h48,h57⟩:=h48
         cases b
         ·obtain ⟨hy0,hy1,hy2⟩:0≤y∧y≤9223372036854775807∧numFold ((digits (s.data.toList.drop p)).drop (q - p)) y=numFold (digits (s.data.toList.drop p)) 0:=by simpa using hy.out
          have hN:Hid ((if (9223372036854775807 - ((s[q].toNat:Int) - 48)) / 10<y then none else numFold ((digits (s.data.toList.drop p)).drop (q + 1 - p)) (10 * y + ((s[q].toNat:Int) - 48)))=numFold (digits (s.data.toList.drop p)) 0):=by
           have h1:q - p<rl isDigit (s.data.toList.drop p):=by
            have:=hr'.out;omega
           have h2:=digits_drop (s.data.toList.drop p) (q - p) h1 (by simp;omega)
           rw [h2,numFold] at hy2
           have h3:(s.data.toList.drop p)[q - p]'(by simp;omega)=s[q]:=by
            rw [List.getElem_drop]
            simp only [show p + (q - p)=q from by omega]
            rfl
           rw [h3] at hy2
           rw [show q + 1 - p=q - p + 1 from by omega]
           exact Lib.hid hy2
          clear hy hy2
          by_cases hb:(9223372036854775807 - ((s[q].toNat:Int) - 48)) / 10<y
          ·have HE:Hid (numFold (digits (s.data.toList.drop p)) 0=none):=by
            have:=hN.out;rw [if_pos hb] at this;exact Lib.hid this.symm
           go_wp2_with (go_at_call 34;refine (digitR_any _ _).mono ?_;rintro e w' ⟨rfl,rfl⟩)
           go_round
           case rel=>exact ⟨q + 1,_,true,by omega,by omega,by go_num,rfl,rfl,hr',HE⟩
           case measure=>simp [intOf];omega
          ·have HE:Hid (numFold ((digits (s.data.toList.drop p)).drop (q + 1 - p)) (10 * y + ((s[q].toNat:Int) - 48))=numFold (digits (s.data.toList.drop p)) 0):=by
            have:=hN.out;rw [if_neg hb] at this;exact Lib.hid this
           have hb':y≤(9223372036854775807 - ((s[q].toNat:Int) - 48)) / 10:=by omega
           have hbf:decide ((9223372036854775807 - ((s[q].toNat:Int) - 48)) / 10<y)=false:=by simpa using hb'
           go_wp2_with (go_at_call 34;refine (digitR_any _ _).mono ?_;rintro e w' ⟨rfl,rfl⟩)
           go_round
           case rel=>exact ⟨q + 1,_,false,by omega,by omega,by go_num,rfl,rfl,hr',Lib.hid (by simp;exact ⟨by omega,by omega,HE.out⟩)⟩
           case measure=>simp [intOf];omega
         ·have HE:Hid (numFold (digits (s.data.toList.drop p)) 0=none):=Lib.hid (by simpa using hy.out)
          clear hy
          go_wp2_with (go_at_call 34;refine (digitR_any _ _).mono ?_;rintro e w' ⟨rfl,rfl⟩)
          go_round
          case rel=>exact ⟨q + 1,_,true,by omega,by omega,by go_num,rfl,rfl,hr',HE⟩
          case measure=>simp [intOf];omega
        ·have hex:(∃ h:q<s.size,isDigit s[q].toNat=false) ∨ s.size≤q:=by
          by_cases h:q<s.size
          ·exact .inl ⟨h,by simpa using fun hh=>hcont ⟨h,hh⟩⟩
          ·exact .inr (by omega)
         have hq:Hid (q=p + rl isDigit (s.data.toList.drop p)):=by
          refine Lib.hid ?_
          have h1:=hr.out
          by_cases h:q<s.size
          ·rw [drop_at s q h,rl_cons,if_neg (fun hh=>hcont ⟨h,hh⟩)] at h1;omega
          ·rw [List.drop_of_length_le (by simp;omega),rl_nil] at h1;omega
         have HY:Hid (if b then numFold (digits (s.data.toList.drop p)) 0=none else 0≤y∧y≤9223372036854775807∧numFold (digits (s.data.toList.drop p)) 0=some y):=by
          have h1:=hy.out
          cases b
          ·simp only [Bool.false_eq_true,if_false] at h1 ⊢
           rw [show q - p=rl isDigit (s.data.toList.drop p) from by have:=hq.out;omega,digits_end] at h1
           exact Lib.hid ⟨h1.1,h1.2.1,h1.2.2.symm⟩
          ·exact Lib.hid h1
         clear hcont hr hy
         rcases hex with ⟨hkl,hL1⟩ | hkl
         all_goals
          go_wp2_with (go_at_call 34;refine (digitR_any _ _).mono ?_;rintro e w' ⟨rfl,rfl⟩)
          go_meet
          exact ⟨q,y,b,rfl,rfl,rfl,rfl,hpq,hqs,hq,HY⟩
      case rest=>
       obtain ⟨q,y,b,rfl,rfl,rfl,rfl,hpq,hqs,hq,hy⟩:=hcut
       have c0:=hblk.cell 0
       have c1:=hblk.cell 1
       simp at c0 c1
       have f0:=hblk.frozen 0
       have f1:=hblk.frozen 1
       cases b
       ·obtain ⟨hy0,hy1,hy2⟩:0≤y∧y≤9223372036854775807∧numFold (digits (s.data.toList.drop p)) 0=some y:=by simpa using hy.out
        have HY:=Lib.hid hy2
        clear hy hy2
        by_cases hbad:∃ h:q<s.size,isLetter s[q].toNat=true
        ·obtain ⟨hql,hL⟩:=hbad
         have HE:Hid (tokensR s.data.toList=([],3,(p:Int))):=by
          have h0:numberT (s.data.toList.drop p)=(noTokT,0,3):=by
           unfold numberT;rw [HY.out];simp only []
           rw [if_pos]
           have h1:=hq.out
           have h2:(s.data.toList.drop p).getD (rl isDigit (s.data.toList.drop p)) 0=s[q]:=by
            rw [List.getD_eq_getElem?_getD,List.getElem?_drop,← h1,List.getElem?_eq_getElem (by simpa using hql)];rfl
           rw [h2,hL]
           simp;omega
          have:=HB.out;rw [HK.out,h0] at this;exact Lib.hid this.symm
         go_wp2_with (go_at_call 33;refine (letterR_any _ _).mono ?_;rintro e w' ⟨rfl,rfl⟩)
         refine bodyPost_ret (v:=.tuple #[.slice none 0 0,.agg #[.int .i64 3,.int .i64 p]]) (by simp [results,Tryz.results16,go_sem,c0,c1]) rfl ?_
         rw [HE.out]
         refine ⟨_,rfl,TokRow.nil _ _,?_⟩
         repeat (first | exact hbw | refine Below.drew ?_ | refine Below.setCell ?_ (by simp) _ | refine Below.alloc ?_ (by simp;omega) _)
        ·have HK2:Hid (scanR f' (s.data.toList.drop q) q (ts ++ [⟨2,[],y,p⟩])=tokensR s.data.toList):=by
          have h0:numberT (s.data.toList.drop p)=(⟨2,[],y,0⟩,rl isDigit (s.data.toList.drop p),0):=by
           unfold numberT;rw [HY.out];simp only []
           rw [if_neg]
           have h1:=hq.out
           intro hh
           simp only [Bool.and_eq_true,decide_eq_true_eq] at hh
           have h3:q<s.size:=by have:=hh.1;simp at this;omega
           have h2:(s.data.toList.drop p).getD (rl isDigit (s.data.toList.drop p)) 0=s[q]:=by
            rw [List.getD_eq_getElem?_getD,List.getElem?_drop,← h1,List.getElem?_eq_getElem (by simpa using h3)];rfl
           rw [h2] at hh
           exact hbad ⟨h3,hh.2⟩
          have:=HB.out;rw [HK.out,h0] at this
          simp only [if_true,List.drop_drop,← hq.out] at this
          exact Lib.hid this
         have hpq1:p<q:=by
          have h1:=hq.out
          have h2:0<rl isDigit (s.data.toList.drop p):=by rw [hd.out];exact rl_pos hdg
          omega
         have hex:(∃ h:q<s.size,isLetter s[q].toNat=false) ∨ s.size≤q:=by
          by_cases h:q<s.size
          ·exact .inl ⟨h,by simpa using fun hh=>hbad ⟨h,hh⟩⟩
          ·exact .inr (by omega)
         clear hbad c0 c1 f0 f1
         rcases hex with ⟨hkl,hL1⟩ | hkl
         all_goals
          go_wp2_with (first | (go_at_call 33;refine (letterR_any _ _).mono ?_;rintro e w' ⟨rfl,rfl⟩) | (at_builtin;refine append_tok rfl (.tmp 184) (.tmp 189) rfl w.heap.size _ ts ⟨2,[],y,p⟩ rfl wo.heap.size rfl (hown.alloc _) (BlkIs.fresh _ _ _) rfl (by omega) (by simp;omega) ?_;intro v2 w2 hown3 hbel hoth))
          go_roundw
          case rel=>exact ⟨q,_,f',rfl,hqs,hown3,by simp;omega,(hbw.alloc (by omega) _).trans hbel,hoth _ _ _ (by decide) (hblk.alloc _),by omega,HK2.out⟩
          case measure=>simp [intOf];omega
       ·have HE:Hid (tokensR s.data.toList=([],10,(p:Int))):=by
         have h0:numberT (s.data.toList.drop p)=(noTokT,0,10):=by
          unfold numberT;rw [show numFold (digits (s.data.toList.drop p)) 0=none from by simpa using hy.out]
         have:=HB.out;rw [HK.out,h0] at this;exact Lib.hid this.symm
        clear hy
        go_wp2_with fail
        refine bodyPost_ret (v:=.tuple #[.slice none 0 0,.agg #[.int .i64 10,.int .i64 p]]) (by simp [results,Tryz.results16,go_sem,c0,c1]) rfl ?_
        rw [HE.out]
        refine ⟨_,rfl,TokRow.nil _ _,?_⟩
        repeat (first | exact hbw | refine Below.drew ?_ | refine Below.setCell ?_ (by simp) _ | refine Below.alloc ?_ (by simp;omega) _)
     ·as_aux_lemma=>
      have hdg':isDigit s[p].toNat=false:=by simpa using hdg
      have HK:Hid (tokenR (s.data.toList.drop p)=if signR (s.data.toList.drop p)=[] then (noTokT,0,3) else (⟨3,signR (s.data.toList.drop p),0,0⟩,(signR (s.data.toList.drop p)).length,0)):=by
       unfold tokenR;rw [hg.out,if_neg hl,if_neg hdg];exact Lib.hid rfl
      clear hl hdg
      go_upto_block 3 with (first | (go_at_call 33;refine (letterR_any _ _).mono ?_;rintro e w' ⟨rfl,rfl⟩) | (go_at_call 34;refine (digitR_any _ _).mono ?_;rintro e w' ⟨rfl,rfl⟩) | (go_at_call 37;refine (signs_any _).mono ?_;rintro e w' ⟨rfl,rfl⟩))
      go_cut [13] (fun s13 wx=>∃ k:Nat,s13=.int .i64 k∧k≤43∧BlkIs wx wo.heap.size 9 (strCells signsR).toArray∧Below wo.heap.size wo wx ∧
       Hid (signR (s.data.toList.drop p)=signsR.getD k [])∧Hid (k<43→(signsR.getD k []).isPrefixOf (s.data.toList.drop p)=true))
      case first=>
       go_wp2_with fail
       go_loopw [13] (fun s13 wx=>∃ k:Nat,s13=.int .i64 k∧k≤43∧BlkIs wx wo.heap.size 9 (strCells signsR).toArray∧Below wo.heap.size wo wx ∧
        Hid (signR (s.data.toList.drop p)=((signsR.drop k).find? fun x=>x.isPrefixOf (s.data.toList.drop p)).getD [])) (fun s13 _=>43 - (intOf s13).toNat)
       case atStart=>exact ⟨0,rfl,by omega,BlkIs.fresh _ _ _,below_alloc _ _,Lib.hid rfl⟩
       case round=>
        obtain ⟨k,rfl,hk,hbk,hbo,hr⟩:=hrel
        by_cases hk43:k<43
        ·have hkl:k<signsR.length:=hk43
         obtain ⟨x,hx⟩:∃ x,Hid (signsR[k]=x):=⟨_,Lib.hid rfl⟩
         have hx3:x.length≤3:=by rw [← hx.out];exact signsR_le k hkl
         have hc:wr.cell? ⟨wo.heap.size,k,none⟩=some (.string ⟨x.toArray⟩):=by rw [hbk.cell,strCells_at signsR k hkl,hx.out]
         have hfd:Hid ((signsR.drop k).find? (fun x=>x.isPrefixOf (s.data.toList.drop p))=if x.isPrefixOf (s.data.toList.drop p) then some x else (signsR.drop (k + 1)).find? (fun x=>x.isPrefixOf (s.data.toList.drop p))):=by
          refine Lib.hid ?_
          rw [List.drop_eq_getElem_cons hkl,hx.out,List.find?_cons]
          cases x.isPrefixOf (s.data.toList.drop p) <;> rfl
         have hxd:Hid (signsR.getD k []=x):=by
          rw [List.getD_eq_getElem?_getD,List.getElem?_eq_getElem hkl,hx.out];exact Lib.hid rfl
         clear hx hkl
         have hkb:decide ((k:Int)<43)=true:=by simp;omega
         have w1:IntKind.i64.wrap ((s.size:Int) - (p:Int))=(s.size:Int) - (p:Int):=IntWalk.i64_in _ (by omega)
         have w2:IntKind.i64.wrap ((p:Int) + (x.length:Int))=(p:Int) + (x.length:Int):=IntWalk.i64_in _ (by omega)
         have w3:((p:Int) + (x.length:Int)).toNat=p + x.length:=by omega
         by_cases hfit:s.size - p<x.length
         ·have hA:decide ((s.size:Int) - (p:Int)<(x.length:Int))=true:=by simp;omega
          have hnp:Hid (x.isPrefixOf (s.data.toList.drop p)=false):=by
           refine Lib.hid ?_
           rw [← Bool.not_eq_true]
           intro h
           have:=((isPrefixOf_take _ _).1 h).1
           simp at this
           omega
          have HR:Hid (signR (s.data.toList.drop p)=((signsR.drop (k + 1)).find? fun x=>x.isPrefixOf (s.data.toList.drop p)).getD []):=by
           have:=hr.out;rw [hfd.out,hnp.out] at this;exact Lib.hid this
          clear hnp hfd hr
          go_wp2_with fail
          go_quiet (fail)
          go_wp2_with fail
          go_roundw
          case rel=>exact ⟨k + 1,by go_num,by omega,hbk.drewN _,below_drewN hbo _,HR⟩
          case measure=>simp [intOf];omega
         ·have hA:decide ((s.size:Int) - (p:Int)<(x.length:Int))=false:=by simp;omega
          have hpx:Hid (x.isPrefixOf (s.data.toList.drop p)=true ↔ (s.extract p (p + x.length)).toList=x):=by
           refine Lib.hid ?_
           rw [isPrefixOf_take,ByteArray.toList_eq]
           simp only [ByteArray.data_extract,Array.toList_extract]
           simp
           omega
          by_cases hpre:(s.extract p (p + x.length)).toList=x
          ·have hT:(!((s.extract p (p + x.length)).toList == x))=false:=by simpa using hpre
           have HP:Hid (x.isPrefixOf (s.data.toList.drop p)=true):=Lib.hid (hpx.out.2 hpre)
           have HR:Hid (signR (s.data.toList.drop p)=x):=by
            have:=hr.out;rw [hfd.out,HP.out] at this;exact Lib.hid this
           clear hpre hpx hfd hr
           go_wp2_with fail
           go_quiet (fail)
           go_wp2_with fail
           go_meet
           exact ⟨k,rfl,hk,hbk.drewN _,below_drewN hbo _,Lib.hid (HR.out.trans hxd.out.symm),Lib.hid (fun _=>by rw [hxd.out];exact HP.out)⟩
          ·have hT:(!((s.extract p (p + x.length)).toList == x))=true:=by simpa using hpre
           have HP:Hid (x.isPrefixOf (s.data.toList.drop p)=false):=by
            refine Lib.hid ?_
            rw [← Bool.not_eq_true]
            exact fun h=>hpre (hpx.out.1 h)
           have HR:Hid (signR (s.data.toList.drop p)=((signsR.drop (k + 1)).find? fun x=>x.isPrefixOf (s.data.toList.drop p)).getD []):=by
            have:=hr.out;rw [hfd.out,HP.out] at this;exact Lib.hid this
           clear hpre hpx hfd hr HP
           go_wp2_with fail
           go_quiet (fail)
           go_wp2_with fail
           go_roundw
           case rel=>exact ⟨k + 1,by go_num,by omega,hbk.drewN _,below_drewN hbo _,HR⟩
           case measure=>simp [intOf];omega
        ·obtain rfl:k=43:=by omega
         have HR:Hid (signR (s.data.toList.drop p)=[]):=by
          have:=hr.out
          rw [show signsR.drop 43=[] from rfl] at this
          exact Lib.hid this
         clear hr
         go_wp2_with fail
         go_quiet (fail)
         go_wp2_with fail
         go_meet
         exact ⟨43,rfl,Nat.le_refl _,hbk.drewN _,below_drewN hbo _,Lib.hid (HR.out.trans rfl),Lib.hid (fun h=>absurd h (by omega))⟩
      case rest=>
       obtain ⟨k,rfl,hk,hbk,hbo,hr,hpre⟩:=hcut
       have hblk2:=hblk.below hbo hbz
       have hown2:=hown.below hbo
       have hbw2:Below w.heap.size w wc:=hbw.trans (hbo.mono (by omega))
       have hbz2:=hbk.lt
       by_cases hk43:k<43
       ·have hkl:k<signsR.length:=hk43
        obtain ⟨x,hx⟩:∃ x,Hid (signsR[k]=x):=⟨_,Lib.hid rfl⟩
        have hx3:x.length≤3:=by rw [← hx.out];exact signsR_le k hkl
        have hx1:0<x.length:=by rw [← hx.out];exact signsR_pos k hkl
        have hc:wc.cell? ⟨wo.heap.size,k,none⟩=some (.string ⟨x.toArray⟩):=by rw [hbk.cell,strCells_at signsR k hkl,hx.out]
        have hxd:signsR.getD k []=x:=by
         rw [List.getD_eq_getElem?_getD,List.getElem?_eq_getElem hkl,hx.out];rfl
        have hfit:x.length≤s.size - p:=by
         have:=((isPrefixOf_take _ _).1 (hpre.out hk43)).1
         rw [hxd] at this
         simpa using this
        have HK2:Hid (scanR f' (s.data.toList.drop (p + x.length)) (p + x.length) (ts ++ [⟨3,x,0,p⟩])=tokensR s.data.toList):=by
         have h1:signR (s.data.toList.drop p)=x:=hr.out.trans hxd
         have h2:=HK.out
         rw [h1,if_neg (by intro h;rw [h] at hx1;simp at hx1)] at h2
         have:=HB.out
         rw [h2] at this
         simp only [if_true,List.drop_drop] at this
         exact Lib.hid this
        have hkb:((k:Int) == 43)=false:=by simp;omega
        have HC:Hid ((strCells signsR).toArray[k]?=some (.string ⟨x.toArray⟩)):=by rw [strCells_at signsR k hkl,hx.out];exact Lib.hid rfl
        clear hx hkl hxd hpre hr HK HB
        go_wp2_with (at_builtin;refine append_tok rfl (.tmp 68) (.tmp 75) rfl w.heap.size _ ts ⟨3,x,0,p⟩ rfl wc.heap.size rfl (hown2.alloc _) (BlkIs.fresh _ _ _) rfl (by omega) (by simp;omega) ?_)
        intro v2 w2 hown3 hbel hoth
        have hc2:w2.cell? ⟨wo.heap.size,k,none⟩=some (.string ⟨x.toArray⟩):=by
         rw [(hoth _ _ _ (by decide) (hbk.alloc _)).cell,HC.out]
        go_wp2_with fail
        go_roundw
        case rel=>exact ⟨p + x.length,_,f',by go_num,by omega,hown3,by simp;omega,(hbw2.alloc (by omega) _).trans hbel,hoth _ _ _ (by decide) (hblk2.alloc _),by omega,HK2.out⟩
        case measure=>simp [intOf];omega
       ·obtain rfl:k=43:=by omega
        have HE:Hid (tokensR s.data.toList=([],3,(p:Int))):=by
         have h1:signR (s.data.toList.drop p)=[]:=hr.out
         have h2:=HK.out
         rw [h1,if_pos rfl] at h2
         have:=HB.out;rw [h2] at this;exact Lib.hid this.symm
        have c0:=hblk2.cell 0
        have c1:=hblk2.cell 1
        simp at c0 c1
        have f0:=hblk2.frozen 0
        have f1:=hblk2.frozen 1
        clear hpre hr HK HB
        go_wp2_with fail
        refine bodyPost_ret (v:=.tuple #[.slice none 0 0,.agg #[.int .i64 3,.int .i64 p]]) (by simp [results,Tryz.results16,go_sem,c0,c1]) rfl ?_
        rw [HE.out]
        refine ⟨_,rfl,TokRow.nil _ _,?_⟩
        repeat (first | exact hbw2 | refine Below.drew ?_ | refine Below.setCell ?_ (by simp) _ | refine Below.alloc ?_ (by simp;omega) _)
  ·as_aux_lemma=>
   obtain rfl:p=s.size:=by omega
   have HE:Hid (tokensR s.data.toList=(ts ++ [⟨0,[],0,(s.size:Int)⟩],0,0)):=by
    refine Lib.hid ?_
    have:=HS.out
    rw [List.drop_of_length_le (by simp),scanR] at this
    exact this.symm
   go_wp2_with (at_builtin;refine append_tok rfl (.tmp 191) (.tmp 195) rfl w.heap.size _ ts ⟨0,[],0,s.size⟩ rfl wo.heap.size rfl (hown.alloc _) (BlkIs.fresh _ _ _) rfl (by omega) (by simp;omega) ?_)
   intro v' w2 hown2 hbel hoth
   have hblk2:=hoth _ _ _ (by decide) (hblk.alloc _)
   have c0:=hblk2.cell 0
   have c1:=hblk2.cell 1
   simp at c0 c1
   have f0:=hblk2.frozen 0
   have f1:=hblk2.frozen 1
   have hz2':=hblk2.lt
   have hbw2:Below w.heap.size w w2:=(hbw.alloc (by omega) _).trans hbel
   go_wp2_with fail
   refine bodyPost_ret (v:=.tuple #[v',.agg #[.int .i64 0,.int .i64 0]]) (by simp [results,Tryz.results16,go_sem,c0,c1]) rfl ?_
   rw [HE.out]
   refine ⟨_,rfl,?_,?_⟩
   ·exact TokRow.far (TokRow.far hown2 (hown2.ne_blk hblk2 (by decide)) _) (hown2.ne_blk hblk2 (by decide)) _
   ·repeat (first | exact hbw2 | refine Below.drew ?_ | refine Below.setCell ?_ (by simp) _ | refine Below.alloc ?_ (by simp;omega) _)
end Go.Proofs.YtdmacgoeikjdbaaGreatDoor

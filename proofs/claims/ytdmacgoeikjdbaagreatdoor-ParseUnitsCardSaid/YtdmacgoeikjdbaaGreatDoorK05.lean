/- The shelf's contracts at this dump, in plain words, as far as this cla -/
import Derived.Shelf.Small.Strs
import Derived.Shelf.Small.Wraps
import Derived.Shelf.Strings.Search1
import Derived.Shelf.Strings.Search2
import Derived.Shelf.Strings.Search3
import Derived.Shelf.LaysM
import Derived.Shelf.Strings.Shaped
import Derived.Shelf.Strings.Prefix
import Derived.Shelf.Strings.Fields
import Derived.Shelf.Slices.Turned
import Derived.Test.YtdmacgoeikjdbaaGreatDoorProg
import Derived.Test.YtdmacgoeikjdbaaGreatDoorK01
import Derived.BigRegion
import Derived.RegionTactic
import Derived.Test.YtdmacgoeikjdbaaGreatDoorK02
import Derived.Outline
set_option maxHeartbeats 1000000
namespace Go.Proofs
open Go.Shelf
def Tryz.lays137_ren:Go.Shelf.Ren:=⟨fun | 137=>82 | 217=>97 | 266=>109 | n=>n,fun | 9=>9 | 5=>5 | 3=>3 | n=>n,fun | n=>n⟩
theorem Tryz.lays137:Go.Proofs.Lays.n137 Tryz.prog Tryz.lays137_ren:={
 mixed:=by kernel_rfl
 f137:=Tryz.func82.trans (congrArg some (by kernel_rfl))
 f217:=Tryz.func97.trans (congrArg some (by kernel_rfl))
 f266:=Tryz.func109.trans (congrArg some (by kernel_rfl))
 t3:=Tryz.underlying3
 a3:=Tryz.isAgg3
 z3:=Tryz.sizeOf3
 v3:=Tryz.zeroValue3
 t5:=Tryz.underlying5
 a5:=Tryz.isAgg5
 z5:=Tryz.sizeOf5
 v5:=Tryz.zeroValue5
 t9:=Tryz.underlying9
 a9:=Tryz.isAgg9
 z9:=Tryz.sizeOf9
 v9:=Tryz.zeroValue9 }
open Go.RowKit in
theorem Tryz.strings_IndexByte (s:ByteArray) (c:Int) (w:World) :
  Calls Tryz.prog 82 #[.string s,.int .u8 c] w fun e w'=>e=.returned (.int .i64 (Lib.indexByte s.data.toList c.toNat.toUInt8))∧w'=w:=Any.strings_IndexByte Tryz.lays137 s c w
def Tryz.lays104_ren:Go.Shelf.Ren:=⟨fun | 104=>113 | 211=>123 | 207=>135 | n=>n,fun | 9=>9 | 4=>4 | 24=>125 | 3=>3 | n=>n,fun | n=>n⟩
theorem Tryz.lays104:Go.Proofs.Lays.n104 Tryz.prog Tryz.lays104_ren:={
 mixed:=by kernel_rfl
 f104:=Tryz.func113.trans (congrArg some (by kernel_rfl))
 f207:=Tryz.func135.trans (congrArg some (by kernel_rfl))
 f211:=Tryz.func123.trans (congrArg some (by kernel_rfl))
 t3:=Tryz.underlying3
 a3:=Tryz.isAgg3
 z3:=Tryz.sizeOf3
 v3:=Tryz.zeroValue3
 t4:=Tryz.underlying4
 a4:=Tryz.isAgg4
 z4:=Tryz.sizeOf4
 v4:=Tryz.zeroValue4
 t9:=Tryz.underlying9
 a9:=Tryz.isAgg9
 z9:=Tryz.sizeOf9
 v9:=Tryz.zeroValue9
 t24:=Tryz.underlying125
 a24:=Tryz.isAgg125
 z24:=Tryz.sizeOf125
 v24:=Tryz.zeroValue125 }
open Go.RowKit in
theorem Tryz.strings_CutSuffix (s p:ByteArray) (w:World) (hs:s.size≤9223372036854775807) :
  Calls Tryz.prog 113 #[.string s,.string p] w fun e w'=>e=.returned (.tuple #[.string ⟨(Lib.trimSuffix s.data.toList p.data.toList).toArray⟩,.bool (Lib.hasSuffix s.data.toList p.data.toList)])∧w'=w:=Any.strings_CutSuffix Tryz.lays104 s p w hs
def Tryz.lays144_ren:Go.Shelf.Ren:=⟨fun | 144=>81 | 143=>96 | 219=>108 | 217=>97 | 225=>118 | 224=>119 | 267=>120 | 266=>109 | 314=>128 | n=>n,fun | 9=>9 | 4=>4 | 3=>3 | 5=>5 | 46=>130 | 146=>137 | 51=>136 | n=>n,fun | 1=>0 | n=>n⟩
theorem Tryz.lays144:Go.Proofs.Lays.n144 Tryz.prog Tryz.lays144_ren:={
 mixed:=by kernel_rfl
 f143:=Tryz.func96.trans (congrArg some (by kernel_rfl))
 f144:=Tryz.func81.trans (congrArg some (by kernel_rfl))
 f217:=Tryz.func97.trans (congrArg some (by kernel_rfl))
 f219:=Tryz.func108.trans (congrArg some (by kernel_rfl))
 f224:=Tryz.func119.trans (congrArg some (by kernel_rfl))
 f225:=Tryz.func118.trans (congrArg some (by kernel_rfl))
 f266:=Tryz.func109.trans (congrArg some (by kernel_rfl))
 f267:=Tryz.func120.trans (congrArg some (by kernel_rfl))
 f314:=Tryz.func128.trans (congrArg some (by kernel_rfl))
 t3:=Tryz.underlying3
 a3:=Tryz.isAgg3
 z3:=Tryz.sizeOf3
 v3:=Tryz.zeroValue3
 t4:=Tryz.underlying4
 a4:=Tryz.isAgg4
 z4:=Tryz.sizeOf4
 v4:=Tryz.zeroValue4
 t5:=Tryz.underlying5
 a5:=Tryz.isAgg5
 z5:=Tryz.sizeOf5
 v5:=Tryz.zeroValue5
 t9:=Tryz.underlying9
 a9:=Tryz.isAgg9
 z9:=Tryz.sizeOf9
 v9:=Tryz.zeroValue9
 t46:=Tryz.underlying130
 a46:=Tryz.isAgg130
 z46:=Tryz.sizeOf130
 v46:=Tryz.zeroValue130
 t51:=Tryz.underlying136
 a51:=Tryz.isAgg136
 z51:=Tryz.sizeOf136
 v51:=Tryz.zeroValue136
 t146:=Tryz.underlying137
 a146:=Tryz.isAgg137
 z146:=Tryz.sizeOf137
 v146:=Tryz.zeroValue137
 g1:=by kernel_rfl }
open Go.RowKit Go.Lib in
theorem Tryz.strings_Contains (s sub:ByteArray) (m:Int) (w:World) (hs:s.size<4294967281) (hm:w.cell? ⟨0,0,none⟩=some (.int .i64 m)) :
  Calls Tryz.prog 81 #[.string s,.string sub] w fun e w'=>e=.returned (.bool (Lib.contains s.data.toList sub.data.toList))∧w'=w:=Any.strings_Contains Tryz.lays144 s sub m w hs hm
def Tryz.lays157_ren:Go.Shelf.Ren:=⟨fun | 157=>124 | 229=>136 | 199=>137 | 261=>141 | 311=>143 | 312=>144 | n=>n,fun | 9=>9 | 31=>22 | 3=>3 | 5=>5 | 4=>4 | 119=>142 | 0=>0 | 40=>144 | 152=>148 | 21=>21 | 154=>150 | 51=>136 | 141=>152 | 196=>156 | 193=>153 | 198=>159 | 49=>157 | 194=>154 | 201=>162 | 226=>164 | 46=>130 | 227=>165 | n=>n,fun | 0=>1 | 6=>2 | n=>n⟩
theorem Tryz.lays157:Go.Proofs.Lays.n157 Tryz.prog Tryz.lays157_ren:={
 mixed:=by kernel_rfl
 f157:=Tryz.func124.trans (congrArg some (by kernel_rfl))
 f199:=Tryz.func137.trans (congrArg some (by kernel_rfl))
 f229:=Tryz.func136.trans (congrArg some (by kernel_rfl))
 f261:=Tryz.func141.trans (congrArg some (by kernel_rfl))
 f311:=Tryz.func143.trans (congrArg some (by kernel_rfl))
 f312:=Tryz.func144.trans (congrArg some (by kernel_rfl))
 t0:=Tryz.underlying0
 a0:=Tryz.isAgg0
 z0:=Tryz.sizeOf0
 v0:=Tryz.zeroValue0
 t3:=Tryz.underlying3
 a3:=Tryz.isAgg3
 z3:=Tryz.sizeOf3
 v3:=Tryz.zeroValue3
 t4:=Tryz.underlying4
 a4:=Tryz.isAgg4
 z4:=Tryz.sizeOf4
 v4:=Tryz.zeroValue4
 t5:=Tryz.underlying5
 a5:=Tryz.isAgg5
 z5:=Tryz.sizeOf5
 v5:=Tryz.zeroValue5
 t9:=Tryz.underlying9
 a9:=Tryz.isAgg9
 z9:=Tryz.sizeOf9
 v9:=Tryz.zeroValue9
 t21:=Tryz.underlying21
 a21:=Tryz.isAgg21
 z21:=Tryz.sizeOf21
 v21:=Tryz.zeroValue21
 t31:=Tryz.underlying22
 a31:=Tryz.isAgg22
 z31:=Tryz.sizeOf22
 v31:=Tryz.zeroValue22
 t40:=Tryz.underlying144
 a40:=Tryz.isAgg144
 z40:=Tryz.sizeOf144
 v40:=Tryz.zeroValue144
 t46:=Tryz.underlying130
 a46:=Tryz.isAgg130
 z46:=Tryz.sizeOf130
 v46:=Tryz.zeroValue130
 t49:=Tryz.underlying157
 a49:=Tryz.isAgg157
 z49:=Tryz.sizeOf157
 v49:=Tryz.zeroValue157
 t51:=Tryz.underlying136
 a51:=Tryz.isAgg136
 z51:=Tryz.sizeOf136
 v51:=Tryz.zeroValue136
 t119:=Tryz.underlying142
 a119:=Tryz.isAgg142
 z119:=Tryz.sizeOf142
 t141:=Tryz.underlying152
 a141:=Tryz.isAgg152
 z141:=Tryz.sizeOf152
 v141:=Tryz.zeroValue152
 t152:=Tryz.underlying148
 a152:=Tryz.isAgg148
 z152:=Tryz.sizeOf148
 v152:=Tryz.zeroValue148
 t154:=Tryz.underlying150
 a154:=Tryz.isAgg150
 z154:=Tryz.sizeOf150
 v154:=Tryz.zeroValue150
 t193:=Tryz.underlying153
 a193:=Tryz.isAgg153
 z193:=Tryz.sizeOf153
 v193:=Tryz.zeroValue153
 t194:=Tryz.underlying154
 a194:=Tryz.isAgg154
 z194:=Tryz.sizeOf154
 v194:=Tryz.zeroValue154
 t196:=Tryz.underlying156
 a196:=Tryz.isAgg156
 z196:=Tryz.sizeOf156
 v196:=Tryz.zeroValue156
 t198:=Tryz.underlying159
 a198:=Tryz.isAgg159
 z198:=Tryz.sizeOf159
 v198:=Tryz.zeroValue159
 t201:=Tryz.underlying162
 a201:=Tryz.isAgg162
 z201:=Tryz.sizeOf162
 v201:=Tryz.zeroValue162
 t226:=Tryz.underlying164
 a226:=Tryz.isAgg164
 z226:=Tryz.sizeOf164
 v226:=Tryz.zeroValue164
 t227:=Tryz.underlying165
 a227:=Tryz.isAgg165
 z227:=Tryz.sizeOf165
 v227:=Tryz.zeroValue165
 g0:=by kernel_rfl
 g6:=by kernel_rfl }
open Go.RowKit Go.Lib in
theorem Tryz.strings_Fields (s:ByteArray) (w:World) (hs:s.size<4294967281) (hascii:∀ (j:Nat) b,s.data.toList[j]?=some b→b.toNat<128) (htab:Lib.TabIs Tryz.prog w "strings.asciiSpace" .u8 Lib.asciiSpaceTab) :
  Calls Tryz.prog 124 #[.string s] w fun e w'=>
   e=.returned (.slice (some ⟨w.heap.size,0,none⟩) (Lib.fields s.data.toList).length (Lib.fields s.data.toList).length)∧w'=w.alloc (.cells ((Lib.fields s.data.toList).map fun l=>Value.string ⟨l.toArray⟩).toArray 9):=Any.strings_Fields Tryz.lays157 (by kernel_rfl) (by kernel_rfl) s w hs hascii htab
def Tryz.lays109_ren:Go.Shelf.Ren:=⟨fun | 109=>110 | n=>n,fun | 31=>22 | 9=>9 | 3=>3 | 0=>0 | 4=>4 | n=>n,fun | n=>n⟩
theorem Tryz.lays109:Go.Proofs.Lays.n109 Tryz.prog Tryz.lays109_ren:={
 mixed:=by kernel_rfl
 f109:=Tryz.func110.trans (congrArg some (by kernel_rfl))
 t0:=Tryz.underlying0
 a0:=Tryz.isAgg0
 z0:=Tryz.sizeOf0
 v0:=Tryz.zeroValue0
 t3:=Tryz.underlying3
 a3:=Tryz.isAgg3
 z3:=Tryz.sizeOf3
 v3:=Tryz.zeroValue3
 t4:=Tryz.underlying4
 a4:=Tryz.isAgg4
 z4:=Tryz.sizeOf4
 v4:=Tryz.zeroValue4
 t9:=Tryz.underlying9
 a9:=Tryz.isAgg9
 z9:=Tryz.sizeOf9
 v9:=Tryz.zeroValue9
 t31:=Tryz.underlying22
 a31:=Tryz.isAgg22
 z31:=Tryz.sizeOf22
 v31:=Tryz.zeroValue22 }
open Go.Lib in
theorem Tryz.slices_Index_string (b off n c:Nat) (zs:List ByteArray) (x:ByteArray) (w:World) (hz:n≤zs.length) (hbig:n≤9223372036854775807) (hc:∀ j,j<zs.length→w.cell? ⟨b,off + j,none⟩=some (.string (zs.getD j ByteArray.empty))) :
  Calls Tryz.prog 110 #[.slice (some ⟨b,off,none⟩) n c,.string x] w fun e w'=>e=.returned (.int .i64 (Lib.idxOfS (zs.take n) x))∧w'=w:=Any.slices_Index_string Tryz.lays109 b off n c zs x w hz hbig hc
def Tryz.lays110_ren:Go.Shelf.Ren:=⟨fun | 110=>98 | 109=>110 | n=>n,fun | 31=>22 | 9=>9 | 4=>4 | 3=>3 | 0=>0 | n=>n,fun | n=>n⟩
theorem Tryz.lays110:Go.Proofs.Lays.n110 Tryz.prog Tryz.lays110_ren:={
 mixed:=by kernel_rfl
 f109:=Tryz.func110.trans (congrArg some (by kernel_rfl))
 f110:=Tryz.func98.trans (congrArg some (by kernel_rfl))
 t0:=Tryz.underlying0
 a0:=Tryz.isAgg0
 z0:=Tryz.sizeOf0
 v0:=Tryz.zeroValue0
 t3:=Tryz.underlying3
 a3:=Tryz.isAgg3
 z3:=Tryz.sizeOf3
 v3:=Tryz.zeroValue3
 t4:=Tryz.underlying4
 a4:=Tryz.isAgg4
 z4:=Tryz.sizeOf4
 v4:=Tryz.zeroValue4
 t9:=Tryz.underlying9
 a9:=Tryz.isAgg9
 z9:=Tryz.sizeOf9
 v9:=Tryz.zeroValue9
 t31:=Tryz.underlying22
 a31:=Tryz.isAgg22
 z31:=Tryz.sizeOf22
 v31:=Tryz.zeroValue22 }
open Go.Lib in
theorem Tryz.slices_Contains_string (b off n c:Nat) (zs:List ByteArray) (x:ByteArray) (w:World) (hz:n≤zs.length) (hbig:n≤9223372036854775807) (hc:∀ j,j<zs.length→w.cell? ⟨b,off + j,none⟩=some (.string (zs.getD j ByteArray.empty))) :
  Calls Tryz.prog 98 #[.slice (some ⟨b,off,none⟩) n c,.string x] w fun e w'=>e=.returned (.bool (Lib.containsS (zs.take n) x))∧w'=w:=Any.slices_Contains_string Tryz.lays110 b off n c zs x w hz hbig hc
end Go.Proofs
namespace Go.Proofs.YtdmacgoeikjdbaaGreatDoor
open Go.RowKit
theorem number_any (s:ByteArray) (hs:s.size≤100000) (w:World) :
  Calls Tryz.prog 60 #[.string s] w fun e w'=>e=.returned (.tuple #[(numberL s.data.toList).1,.int .i64 (numberL s.data.toList).2.1,.int .i64 (numberL s.data.toList).2.2])∧Below w.heap.size w w':=by
 have hle:rl isDigit s.data.toList≤s.size:=by have:=rl_le isDigit s.data.toList;simpa using this
 go_enter Tryz.func60,Tryz.ntmps60
 go_wp2_with (go_at_call 23;refine (runDigit _ (by omega) _).mono ?_;rintro e w' ⟨rfl,rfl⟩)
 go_loop [6,7,8,12] (fun x i d c=>∃ (k:Nat) (y:Int),k≤rl isDigit s.data.toList∧0≤y∧y≤9223372036854775807∧c=.int .i64 k∧x=.int .i64 y∧Hid (numFold ((digits s.data.toList).drop k) y=numFold (digits s.data.toList) 0)) (fun _ _ _ c=>rl isDigit s.data.toList - (intOf c).toNat)
 case atStart=>exact ⟨0,0,by omega,by omega,by omega,rfl,rfl,Lib.hid (by simp)⟩
 case round=>
  obtain ⟨k,y,hk,hy0,hy1,rfl,rfl,hr⟩:=hrel
  by_cases hlt:k<rl isDigit s.data.toList
  ·have hks:k<s.size:=by omega
   have hd:=Lib.hid (digits_drop s.data.toList k hlt (by simpa using hks))
   have hp:=rl_at isDigit s.data.toList k hlt (by simpa using hks)
   have h48:48≤(s[k].toNat:Int)∧(s[k].toNat:Int)≤57:=by
    have:isDigit (s[k].toNat)=true:=hp
    simp [isDigit] at this;omega
   obtain ⟨h48,h57⟩:=h48
   clear hp
   have hN:numFold ((digits s.data.toList).drop k) y=if (9223372036854775807 - ((s[k].toNat:Int) - 48)) / 10<y then none else numFold ((digits s.data.toList).drop (k + 1)) (10 * y + ((s[k].toNat:Int) - 48)):=by rw [hd.out];rfl
   have hN:=Lib.hid hN
   by_cases hb:(9223372036854775807 - ((s[k].toNat:Int) - 48)) / 10<y
   ·have HE:Hid (numFold (digits s.data.toList) 0=none):=by
     have:=hN.out;rw [if_pos hb] at this;exact Lib.hid (hr.out.symm.trans this)
    go_wp2_with fail
    refine bodyPost_ret (v:=.tuple #[noTok,.int .i64 0,.int .i64 10]) (by simp [results,Tryz.results60,go_sem,noTok,tokVal]) rfl ⟨?_,(Below.refl _ _).alloc (Nat.le_refl _) _⟩
    have:numberL s.data.toList=(noTok,0,10):=by unfold numberL numberT;rw [HE.out];rfl
    rw [this]
   ·have hb':y≤(9223372036854775807 - ((s[k].toNat:Int) - 48)) / 10:=by omega
    go_wp2_with fail
    go_round
    case rel=>exact ⟨k + 1,_,by omega,by omega,by omega,by go_num,rfl,Lib.hid (by have:=hN.out;rw [if_neg hb] at this;exact this.symm.trans hr.out)⟩
    case measure=>simp [intOf];omega
  ·obtain rfl:k=rl isDigit s.data.toList:=by omega
   have HE:Hid (numFold (digits s.data.toList) 0=some y):=by
    have:=hr.out;rw [digits_end] at this;exact Lib.hid (this.symm.trans rfl)
   by_cases hm:rl isDigit s.data.toList<s.size
   ·have hg:Hid (s.data.toList.getD (rl isDigit s.data.toList) 0=s[rl isDigit s.data.toList]):=by
     refine Lib.hid ?_
     rw [List.getD_eq_getElem?_getD,List.getElem?_eq_getElem (by simpa using hm)];rfl
    go_wp2_with (go_at_call 57;refine (letterL_any _ _).mono ?_;rintro e w' ⟨rfl,rfl⟩)
    ·have hL:isLetter (s[rl isDigit s.data.toList].toNat)=true:=by assumption
     have HN:numberL s.data.toList=(noTok,0,3):=by
      unfold numberL numberT;rw [HE.out];simp only [];rw [hg.out,hL,if_pos (by simp;simpa using hm)];rfl
     refine bodyPost_ret (v:=.tuple #[noTok,.int .i64 0,.int .i64 3]) (by simp [results,Tryz.results60,go_sem,noTok,tokVal]) rfl ⟨?_,(Below.refl _ _).alloc (Nat.le_refl _) _⟩
     rw [HN]
    ·have hL:isLetter (s[rl isDigit s.data.toList].toNat)=false:=by assumption
     have HN:numberL s.data.toList=(tokVal 2 [] y 0,(rl isDigit s.data.toList:Int),0):=by
      unfold numberL numberT;rw [HE.out];simp only [];rw [hg.out,hL,if_neg (by simp)];rfl
     refine bodyPost_ret (v:=.tuple #[tokVal 2 [] y 0,.int .i64 (rl isDigit s.data.toList),.int .i64 0]) (by simp [results,Tryz.results60,go_sem,tokVal]) rfl ⟨?_,(Below.refl _ _).alloc (Nat.le_refl _) _⟩
     rw [HN]
   ·have HN:Hid (numberL s.data.toList=(tokVal 2 [] y 0,(rl isDigit s.data.toList:Int),0)):=by
     refine Lib.hid ?_
     unfold numberL numberT;rw [HE.out];simp only [];rw [if_neg (by simp;intro h;exact absurd (by simpa using h) hm)];rfl
    go_wp2_with fail
    refine bodyPost_ret (v:=.tuple #[tokVal 2 [] y 0,.int .i64 (rl isDigit s.data.toList),.int .i64 0]) (by simp [results,Tryz.results60,go_sem,tokVal]) rfl ⟨?_,(Below.refl _ _).alloc (Nat.le_refl _) _⟩
    rw [HN.out]
end Go.Proofs.YtdmacgoeikjdbaaGreatDoor
namespace Go.Proofs.YtdmacgoeikjdbaaGreatDoor
open Go.RowKit
theorem name_any (s:ByteArray) (hs:s.size≤100000) (w:World) (m:Int) (hm:w.cell? ⟨0,0,none⟩=some (.int .i64 m)) (h0:0<w.heap.size) :
  Calls Tryz.prog 58 #[.string s] w fun e w'=>e=.returned (nameL s.data.toList)∧Below w.heap.size w w':=by
 have hle:rl (fun c=>isLetter c || isDigit c) s.data.toList≤s.size:=by have:=rl_le (fun c=>isLetter c || isDigit c) s.data.toList;simpa using this
 go_enter Tryz.func58,Tryz.ntmps58
 go_wp2_with (go_at_call 23;refine (runBoth _ (by omega) _).mono ?_;rintro e w' ⟨rfl,rfl⟩)
 refine (Tryz.strings_Contains _ _ m _ (by decide) (by rw [World.cell?_alloc_lt _ _ _ (by exact h0)];exact hm)).mono ?_
 rintro e w' ⟨rfl,rfl⟩
 go_wp2_with fail
 ·have hb:amid wordsB (s.data.toList.take (rl isBoth s.data.toList))=true:=by assumption
  refine bodyPost_ret (v:=nameL s.data.toList) (by simp only [nameL,nameT,Tok.val,hb,tokVal,← ext_take];simp [results,Tryz.results58,go_sem];rfl) rfl ⟨rfl,below_alloc _ _⟩
 ·have hb:amid wordsB (s.data.toList.take (rl isBoth s.data.toList))=false:=by assumption
  refine bodyPost_ret (v:=nameL s.data.toList) (by simp only [nameL,nameT,Tok.val,hb,tokVal,← ext_take];simp [results,Tryz.results58,go_sem];rfl) rfl ⟨rfl,below_alloc _ _⟩
theorem ret_ext {s:ByteArray} {k:Nat} {x:List UInt8} (h:x=s.data.toList.take k):Ending.returned (.string (s.extract 0 k))=.returned (.string ⟨x.toArray⟩):=by rw [h,ext_take]
theorem ret_none {x:List UInt8} (h:x=[]):Ending.returned (.string ⟨#[]⟩)=.returned (.string ⟨x.toArray⟩):=by rw [h]
theorem get0 (s:ByteArray) (h:0<s.size):s.data.toList.getD 0 0=s[0]:=by
 rw [List.getD_eq_getElem?_getD,List.getElem?_eq_getElem (by simpa using h)];rfl
theorem sign_any (s:ByteArray) (hs:s.size≤100000) (h1:0<s.size) (w:World) (m:Int) (hm:w.cell? ⟨0,0,none⟩=some (.int .i64 m)) :
  Calls Tryz.prog 61 #[.string s] w fun e w'=>e=.returned (.string ⟨(signL s.data.toList).toArray⟩)∧w=w':=by
 have hg:=Lib.hid (get0 s h1)
 have hl:Hid (s.data.toList.length=s.size):=Lib.hid (by simp)
 by_cases h3:3≤s.size
 ·have h2:2≤s.size:=by omega
  go_enter Tryz.func61,Tryz.ntmps61
  go_wp2_with (first | (go_at_call 81;refine (Tryz.strings_Contains _ _ m _ (by decide) hm).mono ?_;rintro e w' ⟨rfl,rfl⟩) | (go_at_call 82;refine (Tryz.strings_IndexByte _ _ _).mono ?_;rintro e w' ⟨rfl,rfl⟩))
  all_goals
   go_ret
   refine ⟨?_,rfl⟩
   first | refine ret_ext ?_ | refine ret_none ?_
   unfold signL amid threeB twoB oneB
   rw [hg.out,hl.out]
   simp [*]
   try omega
 ·by_cases h2:2≤s.size
  ·go_enter Tryz.func61,Tryz.ntmps61
   go_wp2_with (first | (go_at_call 81;refine (Tryz.strings_Contains _ _ m _ (by decide) hm).mono ?_;rintro e w' ⟨rfl,rfl⟩) | (go_at_call 82;refine (Tryz.strings_IndexByte _ _ _).mono ?_;rintro e w' ⟨rfl,rfl⟩))
   all_goals
    go_ret
    refine ⟨?_,rfl⟩
    first | refine ret_ext ?_ | refine ret_none ?_
    unfold signL amid threeB twoB oneB
    rw [hg.out,hl.out]
    simp [*]
    try omega
  ·have d3:decide ((3:Int)≤(s.size:Int))=false:=by simp;omega
   have d2:decide ((2:Int)≤(s.size:Int))=false:=by simp;omega
   go_enter Tryz.func61,Tryz.ntmps61
   go_wp2_with (first | (go_at_call 81;refine (Tryz.strings_Contains _ _ m _ (by decide) hm).mono ?_;rintro e w' ⟨rfl,rfl⟩) | (go_at_call 82;refine (Tryz.strings_IndexByte _ _ _).mono ?_;rintro e w' ⟨rfl,rfl⟩))
   all_goals
    go_ret
    refine ⟨?_,rfl⟩
    first | refine ret_ext ?_ | refine ret_none ?_
    unfold signL amid threeB twoB oneB
    rw [hg.out,hl.out]
    simp [*]
    try omega
end Go.Proofs.YtdmacgoeikjdbaaGreatDoor
namespace Go.Proofs.YtdmacgoeikjdbaaGreatDoor
open Go.RowKit
theorem token_any (s:ByteArray) (hs:s.size≤100000) (h1:0<s.size) (w:World) (m:Int) (hm:w.cell? ⟨0,0,none⟩=some (.int .i64 m)) (h0:0<w.heap.size) :
  Calls Tryz.prog 25 #[.string s] w fun e w'=>e=.returned (.tuple #[(tokenL s.data.toList).1,.int .i64 (tokenL s.data.toList).2.1,.int .i64 (tokenL s.data.toList).2.2])∧Below w.heap.size w w':=by
 have hg:=Lib.hid (get0 s h1)
 by_cases hl:isLetter s[0].toNat=true
 ·have HT:Hid (tokenL s.data.toList=(nameL s.data.toList,(rl isBoth s.data.toList:Int),0)):=by
   unfold tokenL tokenT;rw [hg.out,if_pos hl];exact Lib.hid rfl
  obtain ⟨kd,hkd⟩:∃ kd,nameL s.data.toList=tokVal kd (s.data.toList.take (rl isBoth s.data.toList)) 0 0:=⟨_,rfl⟩
  go_enter Tryz.func25,Tryz.ntmps25
  go_wp2_with (go_at_call 57;refine (letterL_any _ _).mono ?_;rintro e w' ⟨rfl,rfl⟩)
  refine (name_any s hs _ m (by rw [World.cell?_alloc_lt _ _ _ (by exact h0)];exact hm) (by simp)).mono ?_
  rintro e w1 ⟨rfl,hb⟩
  have hz:w.heap.size<w1.heap.size:=by have:=hb.size;simp at this;omega
  have c0:w1.cell? ⟨w.heap.size,0,none⟩=some (.int .i64 0):=by rw [(bcell hb).1 _ _ (by simp)];simp
  have c1:w1.cell? ⟨w.heap.size,1,none⟩=some (.string ⟨#[]⟩):=by rw [(bcell hb).1 _ _ (by simp)];simp
  have c2:w1.cell? ⟨w.heap.size,2,none⟩=some (.int .i64 0):=by rw [(bcell hb).1 _ _ (by simp)];simp
  have c3:w1.cell? ⟨w.heap.size,3,none⟩=some (.int .i64 0):=by rw [(bcell hb).1 _ _ (by simp)];simp
  have f0:w1.frozen? ⟨w.heap.size,0,none⟩=false:=by rw [(bcell hb).2 _ _ (by simp)];simp
  have f1:w1.frozen? ⟨w.heap.size,1,none⟩=false:=by rw [(bcell hb).2 _ _ (by simp)];simp
  have f2:w1.frozen? ⟨w.heap.size,2,none⟩=false:=by rw [(bcell hb).2 _ _ (by simp)];simp
  have f3:w1.frozen? ⟨w.heap.size,3,none⟩=false:=by rw [(bcell hb).2 _ _ (by simp)];simp
  rw [hkd,tokVal]
  go_wp2_with fail
  go_region
  have hle:rl isBoth s.data.toList≤s.size:=by have:=rl_le isBoth s.data.toList;simpa using this
  go_wp2_with fail
  refine bodyPost_ret (v:=.tuple #[nameL s.data.toList,.int .i64 (rl isBoth s.data.toList),.int .i64 0]) (by rw [hkd,tokVal];simp [results,Tryz.results25,go_sem,hz,c0,c1,c2,c3,Nat.min_eq_left hle]) rfl ⟨by rw [HT.out],?_⟩
  have hb0:Below w.heap.size w w1:=(below_alloc w _).trans (hb.mono (by simp))
  repeat (first | exact hb0 | refine Below.drew ?_ | refine Below.setCell ?_ (by simp) _ | refine Below.alloc ?_ (by simp;omega) _)
 ·have hl':isLetter s[0].toNat=false:=by simpa using hl
  by_cases hd:isDigit s[0].toNat=true
  ·have HT:Hid (tokenL s.data.toList=numberL s.data.toList):=by
    unfold tokenL tokenT;rw [hg.out,if_neg hl,if_pos hd];exact Lib.hid rfl
   obtain ⟨kd,y,hkd⟩:∃ kd y,(numberL s.data.toList).1=tokVal kd [] y 0:=by
    unfold numberL numberT
    split
    ·exact ⟨_,_,rfl⟩
    ·split <;> exact ⟨_,_,rfl⟩
   clear hl
   go_enter Tryz.func25,Tryz.ntmps25
   go_wp2_with (first | (go_at_call 57;refine (letterL_any _ _).mono ?_;rintro e w' ⟨rfl,rfl⟩) | (go_at_call 59;refine (digitL_any _ _).mono ?_;rintro e w' ⟨rfl,rfl⟩))
   refine (number_any s hs _).mono ?_
   rintro e w1 ⟨rfl,hb⟩
   have hz:w.heap.size<w1.heap.size:=by have:=hb.size;simp at this;omega
   have c0:w1.cell? ⟨w.heap.size,0,none⟩=some (.int .i64 0):=by rw [(bcell hb).1 _ _ (by simp)];simp
   have c1:w1.cell? ⟨w.heap.size,1,none⟩=some (.string ⟨#[]⟩):=by rw [(bcell hb).1 _ _ (by simp)];simp
   have c2:w1.cell? ⟨w.heap.size,2,none⟩=some (.int .i64 0):=by rw [(bcell hb).1 _ _ (by simp)];simp
   have c3:w1.cell? ⟨w.heap.size,3,none⟩=some (.int .i64 0):=by rw [(bcell hb).1 _ _ (by simp)];simp
   have f0:w1.frozen? ⟨w.heap.size,0,none⟩=false:=by rw [(bcell hb).2 _ _ (by simp)];simp
   have f1:w1.frozen? ⟨w.heap.size,1,none⟩=false:=by rw [(bcell hb).2 _ _ (by simp)];simp
   have f2:w1.frozen? ⟨w.heap.size,2,none⟩=false:=by rw [(bcell hb).2 _ _ (by simp)];simp
   have f3:w1.frozen? ⟨w.heap.size,3,none⟩=false:=by rw [(bcell hb).2 _ _ (by simp)];simp
   rw [hkd,tokVal]
   go_wp2_with fail
   refine bodyPost_ret (v:=.tuple #[(numberL s.data.toList).1,.int .i64 (numberL s.data.toList).2.1,.int .i64 (numberL s.data.toList).2.2]) (by rw [hkd,tokVal];simp [results,Tryz.results25,go_sem,c0,c1,c2,c3]) rfl ⟨by rw [HT.out],?_⟩
   have hb0:Below w.heap.size w w1:=(below_alloc w _).trans (hb.mono (by simp))
   repeat (first | exact hb0 | refine Below.drew ?_ | refine Below.setCell ?_ (by simp) _ | refine Below.alloc ?_ (by simp;omega) _)
  ·have hd':isDigit s[0].toNat=false:=by simpa using hd
   have HT:Hid (tokenL s.data.toList=if signL s.data.toList=[] then (noTok,0,3) else (tokVal 3 (signL s.data.toList) 0 0,((signL s.data.toList).length:Int),0)):=by
    unfold tokenL tokenT;rw [hg.out,if_neg hl,if_neg hd];refine Lib.hid ?_;split <;> rfl
   clear hl hd
   by_cases hs0:signL s.data.toList=[]
   ·have H0:(signL s.data.toList).isEmpty=true:=by rw [hs0];rfl
    have HT':Hid (tokenL s.data.toList=(noTok,0,3)):=Lib.hid (HT.out.trans (if_pos hs0))
    clear hs0
    go_enter Tryz.func25,Tryz.ntmps25
    go_wp2_with (first | (go_at_call 57;refine (letterL_any _ _).mono ?_;rintro e w' ⟨rfl,rfl⟩) | (go_at_call 59;refine (digitL_any _ _).mono ?_;rintro e w' ⟨rfl,rfl⟩))
    refine (sign_any s hs h1 _ m (by rw [World.cell?_alloc_lt _ _ _ (by exact h0)];exact hm)).mono ?_
    rintro e w1 ⟨rfl,rfl⟩
    go_wp2_with fail
    refine bodyPost_ret (v:=.tuple #[noTok,.int .i64 0,.int .i64 3]) (by simp [results,Tryz.results25,go_sem,noTok,tokVal]) rfl ⟨by rw [HT'.out],below_alloc _ _⟩
   ·have H0:(signL s.data.toList).isEmpty=false:=by simpa using hs0
    have HT':Hid (tokenL s.data.toList=(tokVal 3 (signL s.data.toList) 0 0,((signL s.data.toList).length:Int),0)):=Lib.hid (HT.out.trans (if_neg hs0))
    clear hs0
    go_enter Tryz.func25,Tryz.ntmps25
    go_wp2_with (first | (go_at_call 57;refine (letterL_any _ _).mono ?_;rintro e w' ⟨rfl,rfl⟩) | (go_at_call 59;refine (digitL_any _ _).mono ?_;rintro e w' ⟨rfl,rfl⟩))
    refine (sign_any s hs h1 _ m (by rw [World.cell?_alloc_lt _ _ _ (by exact h0)];exact hm)).mono ?_
    rintro e w1 ⟨rfl,rfl⟩
    go_wp2_with fail
    refine bodyPost_ret (v:=.tuple #[tokVal 3 (signL s.data.toList) 0 0,.int .i64 (signL s.data.toList).length,.int .i64 0]) (by simp [results,Tryz.results25,go_sem,tokVal]) rfl ⟨by rw [HT'.out],below_alloc _ _⟩
end Go.Proofs.YtdmacgoeikjdbaaGreatDoor
namespace Go.Proofs.YtdmacgoeikjdbaaGreatDoor
open Go.RowKit
def TokensRel (B:Nat) (w:World) (s:ByteArray) (v i:Value) (wr:World):Prop:=
 ∃ (p:Nat) (ts:List Tok) (f:Nat),i=.int .i64 p∧p≤s.size∧wr.ownsRow B 43 4 v ts.length (flat ts)∧ts.length≤p∧Below B w wr∧BlkIs wr B 29 #[.int .i64 0,.int .i64 0]∧s.size - p<f ∧
  scanL f (s.data.toList.drop p) p ts=tokensT s.data.toList
theorem tokens_long (s:ByteArray) (hs:2000<s.size) (w:World) (hb:s.size≤9223372036854775807) :
  Calls Tryz.prog 12 #[.string s] w (TokensPost w.heap.size w ([],2,0)):=by
 go_enter Tryz.func12,Tryz.ntmps12
 go_wp2_with fail
 refine bodyPost_ret (v:=.tuple #[.slice none 0 0,.agg #[.int .i64 2,.int .i64 0]]) (by simp [results,Tryz.results12,go_sem]) rfl ⟨_,rfl,TokRow.nil _ _,below_alloc _ _⟩
set_option maxRecDepth 8000 in
theorem tokens_any (s:ByteArray) (hs:s.size≤2000) (w:World) (m:Int) (hm:w.cell? ⟨0,0,none⟩=some (.int .i64 m)) (h0:0<w.heap.size) :
  Calls Tryz.prog 12 #[.string s] w (TokensPost w.heap.size w (tokensT s.data.toList)):=by
 obtain ⟨i0,hi0,hz0,hz1,hz2⟩:=info_parts tok_info
 have hle:rl isBlank s.data.toList≤s.size:=by have:=rl_le isBlank s.data.toList;simpa using this
 have HT:Hid (tokensT s.data.toList=scanL (s.size + 1) (s.data.toList.drop (rl isBlank s.data.toList)) (rl isBlank s.data.toList) []):=by
  refine Lib.hid ?_
  unfold tokensT;rw [if_neg (by simp;omega)];simp
 go_enter Tryz.func12,Tryz.ntmps12
 go_wp2_with (go_at_call 23;refine (runBlank _ (by omega) _).mono ?_;rintro e w' ⟨rfl,rfl⟩)
 go_loopw [4,5] (fun v i wr=>TokensRel w.heap.size w s v i wr) (fun _ i _=>s.size - (intOf i).toNat)
 case atStart=>exact ⟨_,[],s.size + 1,rfl,hle,⟨by simp [flat],.inl ⟨rfl,rfl⟩⟩,by simp,below_alloc _ _,BlkIs.fresh _ _ _,by omega,HT.out.symm⟩
 case round=>
  obtain ⟨p,ts,f,rfl,hp,hown,hlen,hbw,hblk,hf,hsc⟩:=hrel
  have HS:=Lib.hid hsc
  clear hsc
  by_cases hlt:p<s.size
  ·have hd:=Lib.hid (drop_at s p hlt)
   have hbz:=hblk.lt
   go_wp2_with fail
   refine (token_any (s.extract p s.size) (by simp;omega) (by simp;omega) _ m (by rw [hbw.cell (by exact h0)];exact hm) (by omega)).mono ?_
   rintro e w1 ⟨rfl,hb1⟩
   have hx:tokenL (s.extract p s.size).data.toList=asL (tokenT (s.data.toList.drop p)):=by rw [ext_drop];rfl
   rw [hx]
   have hn:=tokenT_le (s.data.toList.drop p)
   have hn1:=tokenT_pos s[p] (s.data.toList.drop (p + 1))
   rw [← hd.out] at hn1
   obtain ⟨⟨⟨kd,tx,nn,ps⟩,n,er⟩,hr⟩:∃ r,tokenT (s.data.toList.drop p)=r:=⟨_,rfl⟩
   rw [hr] at hn hn1 ⊢
   have HR:=Lib.hid hr
   clear hr hx
   simp only [asL,Tok.val,tokVal]
   simp at hn hn1
   have hblk1:=hblk.below hb1 hbz
   have c0:=hblk1.cell 0
   have c1:=hblk1.cell 1
   simp at c0 c1
   have f0:=hblk1.frozen 0
   have f1:=hblk1.frozen 1
   have hz1':=hb1.size
   have hz1'':=hblk1.lt
   by_cases he:er=0
   ·subst he
    have hn1:=hn1 rfl
    have hown1:=own_below hown hb1
    go_wp2_with (at_builtin;refine wpList_append_own _ rfl (.tmp 34) (.tmp 36) 36 rfl w.heap.size 43 i0 _ 4 40 Tryz.underlying36 hi0 hz0 hz1 hz2 rfl (by decide) _ _ _ rfl ((hown1.alloc _).alloc _) ⟨w1.heap.size + 1,0,none⟩ 1 1 [.int .i64 kd,.string ⟨tx.toArray⟩,.int .i64 nn,.int .i64 p] rfl rfl ?c1 (tok_one _ _ _ _) ?c3 ?c4 ?c5 ?_)
    case c3=>unfold maxLen;omega
    case c4=>omega
    case c5=>(try simp);omega
    intro v2 w2 hown2 hg2 _
    have hblk2:BlkIs w2 w.heap.size 29 #[.int .i64 0,.int .i64 0]:=((hblk1.alloc _).alloc _).grown hg2 (own_ne_blk hown1 hblk1 (by decide))
    have hbw2:Below w.heap.size w w2:=by
     refine Below.grown (Below.alloc (Below.alloc (hbw.trans (hb1.mono (by omega))) (by omega) _) (by simp;omega) _) hg2 (by simp;omega) ?_
     exact own_block_ge hown1
    clear hown1 hown c0 c1 f0 f1
    go_wp2_with fail
    refine (runBlank _ (by simp;omega) _).mono ?_
    rintro e w' ⟨rfl,rfl⟩
    have hy:rl isBlank (s.extract (p + n) s.size).data.toList=rl isBlank (s.data.toList.drop (p + n)):=by rw [ext_drop]
    rw [hy]
    have hy2:=rl_le isBlank (s.data.toList.drop (p + n))
    simp at hy2
    clear hy
    go_wp2_with fail
    go_roundw
    case rel=>
     obtain ⟨f',rfl⟩:∃ f',f=f' + 1:=⟨f - 1,by omega⟩
     refine ⟨p + n + rl isBlank (s.data.toList.drop (p + n)),ts ++ [⟨kd,tx,nn,p⟩],f',by go_num,by omega,?_,by simp;omega,hbw2,hblk2,by omega,?_⟩
     ·rw [List.length_append,flat_snoc];exact hown2
     ·have:=HS.out
      rw [hd.out,scanL,← hd.out,HR.out] at this
      simpa [List.drop_drop,Nat.add_assoc] using this
    case measure=>simp [intOf];omega
   ·have he1:(er == 0)=false:=by simpa using he
    have he2:(er != 0)=true:=by simpa using he
    have HE:Hid (tokensT s.data.toList=([],er,(p:Int))):=by
     refine Lib.hid ?_
     obtain ⟨f',rfl⟩:∃ f',f=f' + 1:=⟨f - 1,by omega⟩
     have:=HS.out
     rw [hd.out,scanL,← hd.out,HR.out] at this
     rw [← this,if_neg (by exact he)]
    clear he
    go_wp2_with fail
    refine bodyPost_ret (v:=.tuple #[.slice none 0 0,.agg #[.int .i64 er,.int .i64 p]]) (by simp [results,Tryz.results12,go_sem,c0,c1,hblk1.lt]) rfl ?_
    rw [HE.out]
    refine ⟨_,rfl,TokRow.nil _ _,?_⟩
    have hb0:Below w.heap.size w w1:=hbw.trans (hb1.mono (by omega))
    repeat (first | exact hb0 | refine Below.drew ?_ | refine Below.setCell ?_ (by simp) _ | refine Below.alloc ?_ (by simp;omega) _)
  ·obtain rfl:p=s.size:=by omega
   have hbz:=hblk.lt
   have HE:Hid (tokensT s.data.toList=(ts ++ [⟨0,[],0,(s.size:Int)⟩],0,0)):=by
    refine Lib.hid ?_
    obtain ⟨f',rfl⟩:∃ f',f=f' + 1:=⟨f - 1,by omega⟩
    have:=HS.out
    rw [List.drop_of_length_le (by simp),scanL] at this
    exact this.symm
   go_wp2_with (at_builtin;refine wpList_append_own _ rfl (.tmp 47) (.tmp 51) 36 rfl w.heap.size 43 i0 _ 4 40 Tryz.underlying36 hi0 hz0 hz1 hz2 rfl (by decide) _ _ _ rfl (hown.alloc _) ⟨wr.heap.size,0,none⟩ 1 1 [.int .i64 0,.string ⟨#[]⟩,.int .i64 0,.int .i64 s.size] rfl rfl ?d1 (tok_one _ _ _ _) ?d3 ?d4 ?d5 ?_)
   case d1=>exact (BlkIs.fresh _ _ _).cells rfl
   case d3=>unfold maxLen;omega
   case d4=>omega
   case d5=>(try simp);omega
   intro v' w2 hown2 hg2 _
   have hblk2:BlkIs w2 w.heap.size 29 #[.int .i64 0,.int .i64 0]:=(hblk.alloc _).grown hg2 (own_ne_blk hown hblk (by decide))
   have hbw2:Below w.heap.size w w2:=Below.grown (Below.alloc hbw (by omega) _) hg2 (by simp;omega) (own_block_ge hown)
   have c0:=hblk2.cell 0
   have c1:=hblk2.cell 1
   simp at c0 c1
   have f0:=hblk2.frozen 0
   have f1:=hblk2.frozen 1
   have hz2':=hblk2.lt
   go_wp2_with fail
   refine bodyPost_ret (v:=.tuple #[v',.agg #[.int .i64 0,.int .i64 0]]) (by simp [results,Tryz.results12,go_sem,c0,c1]) rfl ?_
   rw [HE.out]
   refine ⟨_,rfl,?_,?_⟩
   ·unfold TokRow;rw [List.length_append,flat_snoc]
    exact own_far (own_far hown2 (own_ne_blk hown2 hblk2 (by decide)) _) (own_ne_blk hown2 hblk2 (by decide)) _
   ·repeat (first | exact hbw2 | refine Below.drew ?_ | refine Below.setCell ?_ (by simp) _ | refine Below.alloc ?_ (by simp;omega) _)
end Go.Proofs.YtdmacgoeikjdbaaGreatDoor

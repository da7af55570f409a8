/- The reference's parser: what must stand there, names, numbers. The ref -/
import Derived.Test.YtdmacgoeikjdbaaGreatDoorK06
import Derived.Test.YtdmacgoeikjdbaaGreatDoorK01
import Derived.Outline
set_option maxHeartbeats 4000000
namespace Go.Proofs.YtdmacgoeikjdbaaGreatDoor
open Go.RowKit
theorem rok_rfail {s:RS} (e:Int) (h:rok s=true):rok (rfail e s)=(e == 0):=by
 unfold rfail rfailAt
 rw [if_pos h]
 rfl
theorem rmust_any (g:Nat) (gv fv:Value) (s:RS) (x:List UInt8) (w:World) (hr:RdQ w g gv fv s):Calls Tryz.prog 50 #[.pointer (some ⟨g,0,none⟩),.string ⟨x.toArray⟩] w (DoQ (.tuple #[]) g gv fv (rmust x s) w):=by
 have ho:=rok_any g gv fv s w hr
 have ht:=rtake_any g gv fv s x w hr
 unfold rmust
 have HR:=Lib.hid hr
 cases hok:rok s
 ·rw [hok] at ho
  go_enter Tryz.func50,Tryz.ntmps50
  go_wp2_with fail
  refine ho.mono ?_
  rintro e w1 ⟨rfl,rfl⟩
  go_wp2_with fail
  go_end0
  exact ⟨rfl,KeepM.refl _ _,HR.out⟩
 ·rw [hok] at ho
  cases hta:(rtake x s).1
  ·rw [hta] at ht
   go_enter Tryz.func50,Tryz.ntmps50
   go_wp2_with fail
   refine ho.mono ?_
   rintro e w1 ⟨rfl,rfl⟩
   go_wp2_with fail
   refine ht.mono ?_
   rintro e w1 ⟨rfl,k1,r1⟩
   go_wp2_with fail
   refine (rfail_any g gv fv _ 4 _ r1).mono ?_
   rintro e w2 ⟨rfl,k2,r2⟩
   go_wp2_with fail
   go_end0
   exact ⟨rfl,k1.trans k2,r2⟩
  ·rw [hta] at ht
   go_enter Tryz.func50,Tryz.ntmps50
   go_wp2_with fail
   refine ho.mono ?_
   rintro e w1 ⟨rfl,rfl⟩
   go_wp2_with fail
   refine ht.mono ?_
   rintro e w1 ⟨rfl,k1,r1⟩
   go_wp2_with fail
   go_end0
   exact ⟨rfl,k1,r1⟩
theorem RdQ.drewN {w:World} {g:Nat} {gv fv:Value} {s:RS} (h:RdQ w g gv fv s) (n:Nat):RdQ (w.drewN n) g gv fv s:=by
 obtain ⟨h1,h2,A,c,h3,h4⟩:=h
 exact ⟨h1,h2,A,c,h3.drewN n,h4.drewN n⟩
theorem RdQ.first {w:World} {g:Nat} {gv fv:Value} {s:RS} (h:RdQ w g gv fv s):∃ (c q off n:Nat),w.cell? ⟨g,0,none⟩=some (.slice (some ⟨q,off,none⟩) n c)∧0<n∧n≤2001∧n≤c∧q<w.heap.size∧g<w.heap.size ∧
  w.cell? ⟨q,off,none⟩=some (.int .i64 (hdT s.ts).kind)∧w.cell? ⟨q,off + 1,none⟩=some (.string ⟨(hdT s.ts).text.toArray⟩)∧w.cell? ⟨q,off + 2,none⟩=some (.int .i64 (hdT s.ts).n)∧w.cell? ⟨q,off + 3,none⟩=some (.int .i64 (hdT s.ts).pos):=by
 obtain ⟨A,c,q,off,c0,rfl,hq,hqg,hc,t0,t1,t2,t3⟩:=h.tok 0 h.1
 simp only [Nat.mul_zero,Nat.add_zero] at t0 t1 t2 t3
 rw [hdT_get h.1]
 exact ⟨c,q,off,s.ts.length,c0,h.1,h.2.1.1,hc,hq,h.lt,t0,t1,t2,t3⟩
theorem rname_any (g:Nat) (gv fv:Value) (s:RS) (w:World) (hr:RdQ w g gv fv s):Calls Tryz.prog 39 #[.pointer (some ⟨g,0,none⟩)] w (DoQ (.tuple #[.string ⟨(rname s).1.1.toArray⟩,.int .i64 (rname s).1.2]) g gv fv (rname s).2 w):=by
 obtain ⟨c,q,off,n,c0,hn,hn2,hc,hq,hl,t0,t1,t2,t3⟩:=hr.first
 have HR:=Lib.hid hr
 clear hr
 obtain ⟨S,hS⟩:∃ x,Hid (s=x):=⟨_,Lib.hid rfl⟩
 have ho:=fun W h=>rok_any g gv fv s W h
 have hx:=fun W h=>rnext_any g gv fv s W h
 unfold rname rkindTok
 obtain ⟨t,ht⟩:∃ t,hdT s.ts=t:=⟨_,rfl⟩
 rw [ht] at t0 t1 t2 t3 hx ⊢
 clear ht
 obtain ⟨k,tx,m,p⟩:=t
 simp only at t0 t1 t2 t3 ⊢
 have hz:=BlkIs.fresh w 43 #[.int .i64 k,.string ⟨tx.toArray⟩,.int .i64 m,.int .i64 p]
 have hbz:=below_alloc w (.cells #[.int .i64 k,.string ⟨tx.toArray⟩,.int .i64 m,.int .i64 p] 43)
 have kz:KeepM g w (w.alloc (.cells #[.int .i64 k,.string ⟨tx.toArray⟩,.int .i64 m,.int .i64 p] 43)):=KeepM.of hbz
 cases hok:rok s
 ·rw [hok] at ho
  simp only [Bool.false_and,Bool.false_eq_true,if_false,hok]
  go_enter Tryz.func39,Tryz.ntmps39
  go_wp2_with fail
  refine (ho _ (HR.out.below hbz)).mono ?_
  rintro e w1 ⟨rfl,rfl⟩
  go_wp2_with fail
  refine (ho _ (HR.out.below hbz)).mono ?_
  rintro e w1 ⟨rfl,rfl⟩
  go_wp2_with fail
  go_ret2
  exact ⟨rfl,kz,HR.out.below hbz⟩
 ·rw [hok] at ho
  by_cases hk:k=1
  ·have hkb:(k != 1)=false:=by simp [hk]
   simp only [hkb,Bool.and_false,Bool.false_eq_true,if_false,hok,if_true]
   subst hk
   go_enter Tryz.func39,Tryz.ntmps39
   go_wp2_with fail
   refine (ho _ (HR.out.below hbz)).mono ?_
   rintro e w1 ⟨rfl,rfl⟩
   go_wp2_with fail
   refine (ho _ (HR.out.below hbz)).mono ?_
   rintro e w1 ⟨rfl,rfl⟩
   go_wp2_with fail
   refine (hx _ (HR.out.below hbz)).mono ?_
   rintro e w2 ⟨rfl,k2,r2⟩
   have hz2:=hz.keepM k2 (by omega)
   have y1:w2.cell? ⟨w.heap.size,1,none⟩=some (.string ⟨tx.toArray⟩):=hz2.cell 1
   have y3:w2.cell? ⟨w.heap.size,3,none⟩=some (.int .i64 p):=hz2.cell 3
   have hlz:=hz2.lt
   go_wp2_with fail
   go_quiet (fail)
   go_wp2_with fail
   go_ret2
   exact ⟨rfl,kz.trans (k2.drewN _),r2.drewN _⟩
  ·have hkb:(k != 1)=true:=by simp [hk]
   simp only [hkb,Bool.and_true,if_true]
   have hf:rok (rfail 4 s)=false:=by rw [rok_rfail 4 hok];rfl
   have ho2:=fun W h=>rok_any g gv fv (rfail 4 s) W h
   rw [hf] at ho2 ⊢
   simp only [Bool.false_eq_true,if_false]
   go_enter Tryz.func39,Tryz.ntmps39
   go_wp2_with fail
   refine (ho _ (HR.out.below hbz)).mono ?_
   rintro e w1 ⟨rfl,rfl⟩
   go_wp2_with fail
   refine (rfail_any g gv fv _ 4 _ (HR.out.below hbz)).mono ?_
   rintro e w2 ⟨rfl,k2,r2⟩
   go_wp2_with fail
   refine (ho2 _ r2).mono ?_
   rintro e w1 ⟨rfl,rfl⟩
   go_wp2_with fail
   go_ret2
   exact ⟨rfl,kz.trans k2,r2⟩
end Go.Proofs.YtdmacgoeikjdbaaGreatDoor
namespace Go.Proofs.YtdmacgoeikjdbaaGreatDoor
open Go.RowKit
theorem rnumber_any (g:Nat) (gv fv:Value) (s:RS) (w:World) (hr:RdQ w g gv fv s):Calls Tryz.prog 75 #[.pointer (some ⟨g,0,none⟩)] w (DoQ (.int .i64 (rnumber s).1) g gv fv (rnumber s).2 w):=by
 obtain ⟨c,q,off,n,c0,hn,hn2,hc,hq,hl,t0,t1,t2,t3⟩:=hr.first
 have HR:=Lib.hid hr
 clear hr
 have ho:=fun W h=>rok_any g gv fv s W h
 have hx:=fun W h=>rnext_any g gv fv s W h
 unfold rnumber rkindTok
 obtain ⟨t,ht⟩:∃ t,hdT s.ts=t:=⟨_,rfl⟩
 rw [ht] at t0 t1 t2 t3 hx ⊢
 clear ht
 obtain ⟨k,tx,m,p⟩:=t
 simp only at t0 t1 t2 t3 ⊢
 have hz:=BlkIs.fresh w 43 #[.int .i64 k,.string ⟨tx.toArray⟩,.int .i64 m,.int .i64 p]
 have hbz:=below_alloc w (.cells #[.int .i64 k,.string ⟨tx.toArray⟩,.int .i64 m,.int .i64 p] 43)
 have kz:KeepM g w (w.alloc (.cells #[.int .i64 k,.string ⟨tx.toArray⟩,.int .i64 m,.int .i64 p] 43)):=KeepM.of hbz
 cases hok:rok s
 ·rw [hok] at ho
  simp only [Bool.false_and,Bool.false_eq_true,if_false,hok]
  go_enter Tryz.func75,Tryz.ntmps75
  go_wp2_with fail
  refine (ho _ (HR.out.below hbz)).mono ?_
  rintro e w1 ⟨rfl,rfl⟩
  go_wp2_with fail
  refine (ho _ (HR.out.below hbz)).mono ?_
  rintro e w1 ⟨rfl,rfl⟩
  go_wp2_with fail
  go_ret
  exact ⟨rfl,kz,HR.out.below hbz⟩
 ·rw [hok] at ho
  by_cases hk:k=2
  ·have hkb:(k != 2)=false:=by simp [hk]
   simp only [hkb,Bool.and_false,Bool.false_eq_true,if_false,hok,if_true]
   subst hk
   go_enter Tryz.func75,Tryz.ntmps75
   go_wp2_with fail
   refine (ho _ (HR.out.below hbz)).mono ?_
   rintro e w1 ⟨rfl,rfl⟩
   go_wp2_with fail
   refine (ho _ (HR.out.below hbz)).mono ?_
   rintro e w1 ⟨rfl,rfl⟩
   go_wp2_with fail
   refine (hx _ (HR.out.below hbz)).mono ?_
   rintro e w2 ⟨rfl,k2,r2⟩
   have hz2:=hz.keepM k2 (by omega)
   have y2:w2.cell? ⟨w.heap.size,2,none⟩=some (.int .i64 m):=hz2.cell 2
   have hlz:=hz2.lt
   go_wp2_with fail
   go_ret
   exact ⟨rfl,kz.trans k2,r2⟩
  ·have hkb:(k != 2)=true:=by simp [hk]
   simp only [hkb,Bool.and_true,if_true]
   have hf:rok (rfail 4 s)=false:=by rw [rok_rfail 4 hok];rfl
   have ho2:=fun W h=>rok_any g gv fv (rfail 4 s) W h
   rw [hf] at ho2 ⊢
   simp only [Bool.false_eq_true,if_false]
   go_enter Tryz.func75,Tryz.ntmps75
   go_wp2_with fail
   refine (ho _ (HR.out.below hbz)).mono ?_
   rintro e w1 ⟨rfl,rfl⟩
   go_wp2_with fail
   refine (rfail_any g gv fv _ 4 _ (HR.out.below hbz)).mono ?_
   rintro e w2 ⟨rfl,k2,r2⟩
   go_wp2_with fail
   refine (ho2 _ r2).mono ?_
   rintro e w1 ⟨rfl,rfl⟩
   go_wp2_with fail
   go_ret
   exact ⟨rfl,kz.trans k2,r2⟩
theorem rtake_no {x:List UInt8} {s:RS} (h:(rtake x s).1=false):(rtake x s).2=s:=by
 unfold rtake at h ⊢
 cases hb:rok s && ris x s
 ·rfl
 ·rw [hb] at h;cases h
theorem rvalue_any (g:Nat) (gv fv:Value) (s:RS) (w:World) (hr:RdQ w g gv fv s):Calls Tryz.prog 49 #[.pointer (some ⟨g,0,none⟩)] w (DoQ (.int .i64 (rvalue s).1) g gv fv (rvalue s).2 w):=by
 have ht:=rtake_any g gv fv s [45] w hr
 have HR:=Lib.hid hr
 unfold rvalue
 cases hta:(rtake [45] s).1
 ·rw [hta] at ht
  rw [if_neg (by decide)]
  have hs:Hid ((rtake [45] s).2=s):=Lib.hid (rtake_no hta)
  rw [hs.out] at ht
  go_enter Tryz.func49,Tryz.ntmps49
  go_wp2_with fail
  refine ht.mono ?_
  rintro e w1 ⟨rfl,k1,r1⟩
  go_wp2_with fail
  refine (rnumber_any g gv fv s _ r1).mono ?_
  rintro e w2 ⟨rfl,k2,r2⟩
  go_wp2_with fail
  go_ret
  have e:rnumber s=rnumber s:=rfl
  first | exact ⟨rfl,k1.trans k2,r2⟩ | (rw [hs.out];exact ⟨rfl,k1.trans k2,r2⟩)
 ·rw [hta] at ht
  rw [if_pos rfl]
  go_enter Tryz.func49,Tryz.ntmps49
  go_wp2_with fail
  refine ht.mono ?_
  rintro e w1 ⟨rfl,k1,r1⟩
  go_wp2_with fail
  refine (rnumber_any g gv fv _ _ r1).mono ?_
  rintro e w2 ⟨rfl,k2,r2⟩
  go_wp2_with fail
  go_ret
  exact ⟨rfl,k1.trans k2,r2⟩
end Go.Proofs.YtdmacgoeikjdbaaGreatDoor
namespace Go.Proofs.YtdmacgoeikjdbaaGreatDoor
open Go.RowKit
theorem amongT (x:List UInt8) (g:Nat) (w:World) (hg:BlkIs w g 9 (strCells typeWords).toArray) :
  Calls Tryz.prog 35 #[.slice (some ⟨g,0,none⟩) 6 6,.string ⟨x.toArray⟩] w fun e w'=>e=.returned (.bool (decide (x ∈ typeWords)))∧w=w':=
 (among_any typeWords g ⟨x.toArray⟩ w (by decide) hg).mono fun e w' h=>by simpa using h
theorem rtyped0_any (g:Nat) (gv fv:Value) (s:RS) (w:World) (hr:RdQ w g gv fv s):Calls Tryz.prog 89 #[.pointer (some ⟨g,0,none⟩),.int .i64 0] w (TellQ (.bool (rtyped 0 s)) w):=by
 obtain ⟨c,q,off,n,c0,hn,hn2,hc,hq,hl,t0,t1,t2,t3⟩:=hr.first
 have e:rtyped 0 s=isTy (hdT s.ts):=by
  unfold rtyped
  rw [decide_eq_true hr.1,Bool.true_and,hdT_get hr.1]
  congr 1
  rw [List.getD_eq_getElem?_getD,List.getElem?_eq_getElem hr.1]
  rfl
 rw [e]
 clear e hr
 unfold isTy
 obtain ⟨t,ht⟩:∃ t,hdT s.ts=t:=⟨_,rfl⟩
 rw [ht] at t0 t1 t2 t3 ⊢
 clear ht
 obtain ⟨k,tx,m,p⟩:=t
 simp only at t0 t1 t2 t3 ⊢
 have ha:=fun g W hg=>amongT tx g W hg
 cases hb:decide (tx ∈ typeWords) <;> rw [hb] at ha
 ·by_cases hk:k=4
  ·have hkb:(k == 4)=true:=by simp [hk]
   rw [Bool.and_false]
   go_enter Tryz.func89,Tryz.ntmps89
   go_wp2_with (go_at_call 35;refine (ha _ _ (BlkIs.fresh _ _ _)).mono ?_;rintro e w1 ⟨rfl,rfl⟩)
   go_ret
   exact ⟨rfl,below_alloc _ _⟩
  ·have hkb:(k == 4)=false:=by simp [hk]
   rw [Bool.and_false]
   go_enter Tryz.func89,Tryz.ntmps89
   go_wp2_with (go_at_call 35;refine (ha _ _ (BlkIs.fresh _ _ _)).mono ?_;rintro e w1 ⟨rfl,rfl⟩)
   go_ret
   exact ⟨rfl,Below.refl _ _⟩
 ·by_cases hk:k=4
  ·have hkb:(k == 4)=true:=by simp [hk]
   rw [Bool.and_true,hkb]
   go_enter Tryz.func89,Tryz.ntmps89
   go_wp2_with (go_at_call 35;refine (ha _ _ (BlkIs.fresh _ _ _)).mono ?_;rintro e w1 ⟨rfl,rfl⟩)
   go_ret
   exact ⟨rfl,below_alloc _ _⟩
  ·have hkb:(k == 4)=false:=by simp [hk]
   rw [Bool.and_true,hkb]
   go_enter Tryz.func89,Tryz.ntmps89
   go_wp2_with (go_at_call 35;refine (ha _ _ (BlkIs.fresh _ _ _)).mono ?_;rintro e w1 ⟨rfl,rfl⟩)
   go_ret
   exact ⟨rfl,Below.refl _ _⟩
theorem RdQ.second {w:World} {g:Nat} {gv fv:Value} {s:RS} (h:RdQ w g gv fv s) (h1:1<s.ts.length):∃ (c q off n:Nat),w.cell? ⟨g,0,none⟩=some (.slice (some ⟨q,off,none⟩) n c)∧1<n∧n≤2001∧n≤c∧q<w.heap.size∧g<w.heap.size ∧
  w.cell? ⟨q,off + 4,none⟩=some (.int .i64 (s.ts.getD 1 noTokT).kind)∧w.cell? ⟨q,off + 4 + 1,none⟩=some (.string ⟨(s.ts.getD 1 noTokT).text.toArray⟩):=by
 obtain ⟨A,c,q,off,c0,rfl,hq,hqg,hc,t0,t1,t2,t3⟩:=h.tok 1 h1
 have e:s.ts.getD 1 noTokT=s.ts[1]:=by rw [List.getD_eq_getElem?_getD,List.getElem?_eq_getElem h1];rfl
 rw [e]
 exact ⟨c,q,off,s.ts.length,c0,h1,h.2.1.1,hc,hq,h.lt,t0,t1⟩
theorem rtyped1_any (g:Nat) (gv fv:Value) (s:RS) (w:World) (hr:RdQ w g gv fv s):Calls Tryz.prog 89 #[.pointer (some ⟨g,0,none⟩),.int .i64 1] w (TellQ (.bool (rtyped 1 s)) w):=by
 by_cases h1:1<s.ts.length
 ·obtain ⟨c,q,off,n,c0,hn,hn2,hc,hq,hl,t0,t1⟩:=hr.second h1
  have hd:decide ((1:Int)<(n:Int))=true:=by simp;omega
  have e:rtyped 1 s=isTy (s.ts.getD 1 noTokT):=by
   unfold rtyped
   rw [decide_eq_true h1,Bool.true_and]
  rw [e]
  clear e hr h1
  unfold isTy
  obtain ⟨t,ht⟩:∃ t,s.ts.getD 1 noTokT=t:=⟨_,rfl⟩
  rw [ht] at t0 t1 ⊢
  clear ht
  obtain ⟨k,tx,m,p⟩:=t
  simp only at t0 t1 ⊢
  have ha:=fun g W hg=>amongT tx g W hg
  cases hb:decide (tx ∈ typeWords) <;> rw [hb] at ha
  ·by_cases hk:k=4
   ·have hkb:(k == 4)=true:=by simp [hk]
    rw [Bool.and_false]
    go_enter Tryz.func89,Tryz.ntmps89
    go_wp2_with (go_at_call 35;refine (ha _ _ (BlkIs.fresh _ _ _)).mono ?_;rintro e w1 ⟨rfl,rfl⟩)
    go_ret
    exact ⟨rfl,below_alloc _ _⟩
   ·have hkb:(k == 4)=false:=by simp [hk]
    rw [Bool.and_false]
    go_enter Tryz.func89,Tryz.ntmps89
    go_wp2_with (go_at_call 35;refine (ha _ _ (BlkIs.fresh _ _ _)).mono ?_;rintro e w1 ⟨rfl,rfl⟩)
    go_ret
    exact ⟨rfl,Below.refl _ _⟩
  ·by_cases hk:k=4
   ·have hkb:(k == 4)=true:=by simp [hk]
    rw [Bool.and_true,hkb]
    go_enter Tryz.func89,Tryz.ntmps89
    go_wp2_with (go_at_call 35;refine (ha _ _ (BlkIs.fresh _ _ _)).mono ?_;rintro e w1 ⟨rfl,rfl⟩)
    go_ret
    exact ⟨rfl,below_alloc _ _⟩
   ·have hkb:(k == 4)=false:=by simp [hk]
    rw [Bool.and_true,hkb]
    go_enter Tryz.func89,Tryz.ntmps89
    go_wp2_with (go_at_call 35;refine (ha _ _ (BlkIs.fresh _ _ _)).mono ?_;rintro e w1 ⟨rfl,rfl⟩)
    go_ret
    exact ⟨rfl,Below.refl _ _⟩
 ·have e:rtyped 1 s=false:=by
   unfold rtyped
   rw [decide_eq_false h1,Bool.false_and]
  rw [e]
  obtain ⟨c,q,off,n,c0,hn,hn2,hc,hq,hl,t0,t1,t2,t3⟩:=hr.first
  have h2:n=1:=by
   obtain ⟨_,_,A,c',h,_⟩:=hr
   have e0:=h.cell 0
   rw [c0] at e0
   simp at e0
   omega
  subst h2
  clear hr h1 e
  go_enter Tryz.func89,Tryz.ntmps89
  go_wp2_with fail
  go_ret
  exact ⟨rfl,Below.refl _ _⟩
def names4:List (List UInt8):=[bChar,bShort,bInt,bLong]
theorem rkind_any (g:Nat) (gv fv:Value) (s:RS) (w:World) (hr:RdQ w g gv fv s):Calls Tryz.prog 73 #[.pointer (some ⟨g,0,none⟩)] w (DoQ (.int .i64 (rkind s).1) g gv fv (rkind s).2 w):=by
 have ht:=rtake_any g gv fv s bVoid w hr
 have hl:=hr.lt
 have HR:=Lib.hid hr
 unfold rkind
 cases hta:(rtake bVoid s).1
 ·rw [hta] at ht
  rw [if_neg (by decide)]
  rw [rtake_no hta] at ht ⊢
  clear hta
  obtain ⟨b,hb⟩:∃ b,Hid ((rtake bUnsigned s).1=b):=⟨_,Lib.hid rfl⟩
  obtain ⟨s2,hs2⟩:∃ b,Hid ((rtake bUnsigned s).2=b):=⟨_,Lib.hid rfl⟩
  have ht2:=fun W h=>rtake_any g gv fv s bUnsigned W h
  rw [hb.out,hs2.out] at ht2 ⊢
  obtain ⟨R,hR⟩:∃ R,Hid (rkindL (if b=true then 1 else 0) names4 1 s2=R):=⟨_,Lib.hid rfl⟩
  rw [show [bChar,bShort,bInt,bLong]=names4 from rfl,hR.out]
  obtain ⟨u,hu⟩:∃ u:Int,Hid ((if b=true then (1:Int) else 0)=u):=⟨_,Lib.hid rfl⟩
  have huv:u=0 ∨ u=1:=by rw [← hu.out];cases b <;> simp
  rw [hu.out] at hR
  go_enter Tryz.func73,Tryz.ntmps73
  go_wp2_with fail
  refine ht.mono ?_
  rintro e w1 ⟨rfl,k1,r1⟩
  go_wp2_with fail
  refine (ht2 _ r1).mono ?_
  rintro e w2 ⟨rfl,k2,r2⟩
  have k12:=k1.trans k2
  clear ht ht2 k1 k2 r1 HR
  have kz:=KeepM.of (gm:=g) (below_alloc w2 (.cells (strCells names4).toArray 9))
  have hz0:BlkIs (w2.alloc (.cells (strCells names4).toArray 9)) w2.heap.size 9 (strCells names4).toArray:=BlkIs.fresh _ _ _
  have rz:=r2.below (below_alloc w2 (.cells (strCells names4).toArray 9))
  have hgz:=r2.lt
  obtain ⟨gz,hgze⟩:∃ x,Hid (w2.heap.size=x):=⟨_,Lib.hid rfl⟩
  rw [hgze.out] at hz0 hgz
  cases b
  ·obtain rfl:u=0:=by rw [← hu.out];rfl
   clear huv hu hb
   go_wp2_with fail
   rw [hgze.out]
   go_loopw [5] (fun i wr=>∃ (k:Nat) (sk:RS),k≤4∧i=.int .i64 k∧RdQ wr g gv fv sk∧KeepM g w wr∧BlkIs wr gz 9 (strCells names4).toArray∧Hid (rkindL 0 (names4.drop k) (1 + 2 * k) sk=R)) (fun i _=>4 - (intOf i).toNat)
   case atStart=>exact ⟨0,s2,by omega,rfl,rz,k12.trans kz,hz0,hR⟩
   case round=>
    obtain ⟨k,sk,hk,rfl,hRk,hkm,hZ,hL⟩:=hrel
    obtain ⟨wo,rfl⟩:∃ wo:World,wo=wr:=⟨_,rfl⟩
    clear rz kz hz0 r2 k12 hR
    have hlo:=hRk.lt
    have hzl:=hZ.lt
    by_cases hlt:k<4
    ·have hkl:k<names4.length:=hlt
     have hc:wo.cell? ⟨gz,k,none⟩=some (.string ⟨(names4[k]).toArray⟩):=by rw [hZ.cell,strCells_at names4 k hkl]
     have htk:=rtake_any g gv fv sk (names4[k]) wo hRk
     have hL1:=hL.out
     rw [List.drop_eq_getElem_cons hkl,rkindL] at hL1
     obtain ⟨x,hx⟩:∃ x,Hid (names4[k]=x):=⟨_,Lib.hid rfl⟩
     rw [hx.out] at hc htk hL1
     cases hb:(rtake x sk).1
     ·rw [hb] at htk hL1
      rw [if_neg (by decide)] at hL1
      have HL:=Lib.hid hL1
      clear hb hL1
      go_wp2_with fail
      refine htk.mono ?_
      rintro e w5 ⟨rfl,k5,r5⟩
      have z5:=hZ.keepM k5 (by omega)
      go_wp2_with fail
      go_roundw
      case rel=>exact ⟨k + 1,(rtake x sk).2,by omega,by go_num,r5,hkm.trans k5,z5,Lib.hid (by rw [← HL.out];first | (congr 1;done) | (congr 1;omega))⟩
      case measure=>simp [intOf];omega
     ·rw [hb] at htk hL1
      rw [if_pos rfl] at hL1
      have HL:=Lib.hid hL1
      clear hb hL1
      go_wp2_with fail
      refine htk.mono ?_
      rintro e w5 ⟨rfl,k5,r5⟩
      go_wp2_with fail
      go_ret
      rw [← HL.out]
      refine ⟨?_,hkm.trans k5,r5⟩
      first | rfl | (congr 2;omega) | (refine congrArg Ending.returned (congrArg (Value.int IntKind.i64) ?_);omega)
    ·obtain rfl:k=4:=by omega
     have HL:=hL.out
     have e:names4.drop 4=[]:=rfl
     rw [e,rkindL] at HL
     have HL:=Lib.hid HL
     go_wp2_with fail
     refine (rfail_any g gv fv sk 4 wo hRk).mono ?_
     rintro e w5 ⟨rfl,k5,r5⟩
     go_wp2_with fail
     go_ret
     rw [← HL.out]
     exact ⟨rfl,hkm.trans k5,r5⟩
  ·obtain rfl:u=1:=by rw [← hu.out];rfl
   clear huv hu hb
   go_wp2_with fail
   rw [hgze.out]
   go_loopw [5] (fun i wr=>∃ (k:Nat) (sk:RS),k≤4∧i=.int .i64 k∧RdQ wr g gv fv sk∧KeepM g w wr∧BlkIs wr gz 9 (strCells names4).toArray∧Hid (rkindL 1 (names4.drop k) (1 + 2 * k) sk=R)) (fun i _=>4 - (intOf i).toNat)
   case atStart=>exact ⟨0,s2,by omega,rfl,rz,k12.trans kz,hz0,hR⟩
   case round=>
    obtain ⟨k,sk,hk,rfl,hRk,hkm,hZ,hL⟩:=hrel
    obtain ⟨wo,rfl⟩:∃ wo:World,wo=wr:=⟨_,rfl⟩
    clear rz kz hz0 r2 k12 hR
    have hlo:=hRk.lt
    have hzl:=hZ.lt
    by_cases hlt:k<4
    ·have hkl:k<names4.length:=hlt
     have hc:wo.cell? ⟨gz,k,none⟩=some (.string ⟨(names4[k]).toArray⟩):=by rw [hZ.cell,strCells_at names4 k hkl]
     have htk:=rtake_any g gv fv sk (names4[k]) wo hRk
     have hL1:=hL.out
     rw [List.drop_eq_getElem_cons hkl,rkindL] at hL1
     obtain ⟨x,hx⟩:∃ x,Hid (names4[k]=x):=⟨_,Lib.hid rfl⟩
     rw [hx.out] at hc htk hL1
     cases hb:(rtake x sk).1
     ·rw [hb] at htk hL1
      rw [if_neg (by decide)] at hL1
      have HL:=Lib.hid hL1
      clear hb hL1
      go_wp2_with fail
      refine htk.mono ?_
      rintro e w5 ⟨rfl,k5,r5⟩
      have z5:=hZ.keepM k5 (by omega)
      go_wp2_with fail
      go_roundw
      case rel=>exact ⟨k + 1,(rtake x sk).2,by omega,by go_num,r5,hkm.trans k5,z5,Lib.hid (by rw [← HL.out];first | (congr 1;done) | (congr 1;omega))⟩
      case measure=>simp [intOf];omega
     ·rw [hb] at htk hL1
      rw [if_pos rfl] at hL1
      have HL:=Lib.hid hL1
      clear hb hL1
      go_wp2_with fail
      refine htk.mono ?_
      rintro e w5 ⟨rfl,k5,r5⟩
      go_wp2_with fail
      go_ret
      rw [← HL.out]
      refine ⟨?_,hkm.trans k5,r5⟩
      first | rfl | (congr 2;omega) | (refine congrArg Ending.returned (congrArg (Value.int IntKind.i64) ?_);omega)
    ·obtain rfl:k=4:=by omega
     have HL:=hL.out
     have e:names4.drop 4=[]:=rfl
     rw [e,rkindL] at HL
     have HL:=Lib.hid HL
     go_wp2_with fail
     refine (rfail_any g gv fv sk 4 wo hRk).mono ?_
     rintro e w5 ⟨rfl,k5,r5⟩
     go_wp2_with fail
     go_ret
     rw [← HL.out]
     exact ⟨rfl,hkm.trans k5,r5⟩
 ·rw [hta] at ht
  rw [if_pos rfl]
  go_enter Tryz.func73,Tryz.ntmps73
  go_wp2_with fail
  refine ht.mono ?_
  rintro e w1 ⟨rfl,k1,r1⟩
  go_wp2_with fail
  go_ret
  exact ⟨rfl,k1,r1⟩
end Go.Proofs.YtdmacgoeikjdbaaGreatDoor
namespace Go.Proofs.YtdmacgoeikjdbaaGreatDoor
open Go.RowKit
def cellNat (w:World) (g i:Nat):Nat:=match w.cell? ⟨g,i,none⟩ with
 | some v=>(intOf v).toNat
 | none=>0
def tyA (t:Ty):Value:=.agg #[.int .i64 t.kind,.int .i64 t.ptr,.int .i64 t.len]
theorem rtyp_any (g:Nat) (gv fv:Value) (s:RS) (w:World) (hr:RdQ w g gv fv s):Calls Tryz.prog 38 #[.pointer (some ⟨g,0,none⟩)] w (DoQ (tyA (rtyp s).1) g gv fv (rtyp s).2 w):=by
 have hl:=hr.lt
 have HR:=Lib.hid hr
 unfold rtyp
 obtain ⟨K,hK⟩:∃ K,Hid ((rkind s).1=K):=⟨_,Lib.hid rfl⟩
 obtain ⟨s1,hs1⟩:∃ K,Hid ((rkind s).2=K):=⟨_,Lib.hid rfl⟩
 have hk:=fun W h=>rkind_any g gv fv s W h
 rw [hK.out,hs1.out] at hk ⊢
 obtain ⟨R,hR⟩:∃ R,Hid (rstars 5 0 s1=R):=⟨_,Lib.hid rfl⟩
 rw [hR.out]
 unfold tyA
 simp only
 have hb0:=below_alloc w (.cells #[.int .i64 0,.int .i64 0,.int .i64 0] 53)
 have hy0:BlkIs (w.alloc (.cells #[.int .i64 0,.int .i64 0,.int .i64 0] 53)) w.heap.size 53 #[.int .i64 0,.int .i64 0,.int .i64 0]:=BlkIs.fresh _ _ _
 have hr0:=HR.out.below hb0
 have k0:=KeepM.of (gm:=g) hb0
 obtain ⟨gy,hgy⟩:∃ x,Hid (w.heap.size=x):=⟨_,Lib.hid rfl⟩
 rw [hgy.out] at hy0
 have hgy2:g<gy:=by rw [← hgy.out];exact hl
 clear hr
 go_enter Tryz.func38,Tryz.ntmps38
 go_wp2_with fail
 refine (hk _ hr0).mono ?_
 rintro e w1 ⟨rfl,k1,r1⟩
 have y1:=hy0.keepM k1 (by omega)
 have k01:=k0.trans k1
 clear hr0 k0 hy0 hb0 hk
 have hb1:=below_alloc w1 (.cells #[.int .i64 K,.int .i64 0,.int .i64 0] 53)
 have hz1:BlkIs (w1.alloc (.cells #[.int .i64 K,.int .i64 0,.int .i64 0] 53)) w1.heap.size 53 #[.int .i64 K,.int .i64 0,.int .i64 0]:=BlkIs.fresh _ _ _
 have r2:=r1.below hb1
 have k2:=k01.trans (KeepM.of hb1)
 have y2:=y1.below hb1 y1.lt
 obtain ⟨gz,hgz⟩:∃ x,Hid (w1.heap.size=x):=⟨_,Lib.hid rfl⟩
 have hgz2:gy<gz:=by rw [← hgz.out];exact y1.lt
 rw [hgz.out] at hz1
 go_wp2_with fail
 rw [hgy.out,hgz.out]
 go_loopw [8] (fun _ wr=>∃ (n:Nat) (sk:RS),n≤3∧RdQ wr g gv fv sk∧KeepM g w wr∧BlkIs wr gz 53 #[.int .i64 K,.int .i64 n,.int .i64 0]∧BlkIs wr gy 53 #[.int .i64 0,.int .i64 0,.int .i64 0]∧Hid (rstars (5 - n) n sk=R)) (fun _ wr=>4 - cellNat wr gz 1)
 case atStart=>exact ⟨0,s1,by omega,r2,k2,hz1,y2,hR⟩
 case round=>
  obtain ⟨n,sk,hn,hRk,hkm,hZ,hY,hL⟩:=hrel
  obtain ⟨wo,rfl⟩:∃ wo:World,wo=wr:=⟨_,rfl⟩
  clear r1 r2 k2 hz1 y2 y1 k1 k01 hb1 hR
  have hlo:=hRk.lt
  have hzl:=hZ.lt
  have hyl:=hY.lt
  have z0:wo.cell? ⟨gz,0,none⟩=some (.int .i64 K):=hZ.cell 0
  have z1:wo.cell? ⟨gz,1,none⟩=some (.int .i64 n):=hZ.cell 1
  have z2:wo.cell? ⟨gz,2,none⟩=some (.int .i64 0):=hZ.cell 2
  have y0:wo.cell? ⟨gy,0,none⟩=some (.int .i64 0):=hY.cell 0
  have y1:wo.cell? ⟨gy,1,none⟩=some (.int .i64 0):=hY.cell 1
  have y2:wo.cell? ⟨gy,2,none⟩=some (.int .i64 0):=hY.cell 2
  have fy0:=hY.frozen 0
  have fy1:=hY.frozen 1
  have fy2:=hY.frozen 2
  have fz1:=hZ.frozen 1
  have ho:=rok_any g gv fv sk wo hRk
  have hi:=ris_any g gv fv sk [42] wo hRk
  obtain ⟨m,hm⟩:∃ m,5 - n=m + 1:=⟨4 - n,by omega⟩
  have hL1:=hL.out
  rw [hm,rstars] at hL1
  have hgyw:w.heap.size≤gy:=Nat.le_of_eq hgy.out
  have hgzw:w.heap.size≤gz:=by omega
  cases hok:rok sk
  ·rw [hok] at ho hL1
   rw [Bool.false_and,if_neg (by decide)] at hL1
   have HL:=Lib.hid hL1
   clear hok hL1 hL hi
   go_wp2_with fail
   refine ho.mono ?_
   rintro e w5 ⟨rfl,rfl⟩
   go_wp2_with fail
   refine bodyPost_ret (v:=.agg #[.int .i64 K,.int .i64 n,.int .i64 0]) (by simp [results,Tryz.results38,go_sem,(((hY.put 0 (.int .i64 K)).put 1 (.int .i64 n)).put 2 (.int .i64 0)).cell]) rfl ?_
   rw [← HL.out]
   exact ⟨rfl,((hkm.setCell hgyw _).setCell hgyw _).setCell hgyw _,((hRk.far hgy2 _).far hgy2 _).far hgy2 _⟩
  ·rw [hok] at ho hL1
   rw [Bool.true_and] at hL1
   cases his:ris [42] sk
   ·rw [his] at hi hL1
    rw [if_neg (by decide)] at hL1
    have HL:=Lib.hid hL1
    clear hok his hL1 hL
    go_wp2_with fail
    refine ho.mono ?_
    rintro e w5 ⟨rfl,rfl⟩
    go_wp2_with fail
    refine hi.mono ?_
    rintro e w5 ⟨rfl,hb5⟩
    have hZ5:=hZ.below hb5 hzl
    have hY5:=hY.below hb5 hyl
    have r5:=hRk.below hb5
    have k5:=hkm.trans (KeepM.of hb5)
    clear hlo hzl hyl z0 z1 z2 y0 y1 y2 fy0 fy1 fy2 fz1
    have hlo:=r5.lt
    have hzl:=hZ5.lt
    have hyl:=hY5.lt
    have z0:w5.cell? ⟨gz,0,none⟩=some (.int .i64 K):=hZ5.cell 0
    have z1:w5.cell? ⟨gz,1,none⟩=some (.int .i64 n):=hZ5.cell 1
    have z2:w5.cell? ⟨gz,2,none⟩=some (.int .i64 0):=hZ5.cell 2
    have y0:w5.cell? ⟨gy,0,none⟩=some (.int .i64 0):=hY5.cell 0
    have y1:w5.cell? ⟨gy,1,none⟩=some (.int .i64 0):=hY5.cell 1
    have y2:w5.cell? ⟨gy,2,none⟩=some (.int .i64 0):=hY5.cell 2
    have fy0:=hY5.frozen 0
    have fy1:=hY5.frozen 1
    have fy2:=hY5.frozen 2
    have fz1:=hZ5.frozen 1
    go_wp2_with fail
    refine bodyPost_ret (v:=.agg #[.int .i64 K,.int .i64 n,.int .i64 0]) (by simp [results,Tryz.results38,go_sem,(((hY5.put 0 (.int .i64 K)).put 1 (.int .i64 n)).put 2 (.int .i64 0)).cell]) rfl ?_
    rw [← HL.out]
    exact ⟨rfl,(((k5).setCell hgyw _).setCell hgyw _).setCell hgyw _,(((r5).far hgy2 _).far hgy2 _).far hgy2 _⟩
   ·rw [his] at hi hL1
    rw [if_pos rfl] at hL1
    clear hok his hL
    by_cases h3:n=3
    ·subst h3
     rw [if_pos (by decide)] at hL1
     have HL:=Lib.hid hL1
     clear hL1
     go_wp2_with fail
     refine ho.mono ?_
     rintro e w5 ⟨rfl,rfl⟩
     go_wp2_with fail
     refine hi.mono ?_
     rintro e w5 ⟨rfl,hb5⟩
     have hZ5:=hZ.below hb5 hzl
     have hY5:=hY.below hb5 hyl
     have r5:=hRk.below hb5
     have k5:=hkm.trans (KeepM.of hb5)
     clear hlo hzl hyl z0 z1 z2 y0 y1 y2 fy0 fy1 fy2 fz1
     have hlo:=r5.lt
     have hzl:=hZ5.lt
     have hyl:=hY5.lt
     have z0:w5.cell? ⟨gz,0,none⟩=some (.int .i64 K):=hZ5.cell 0
     have z1:w5.cell? ⟨gz,1,none⟩=some (.int .i64 3):=hZ5.cell 1
     have z2:w5.cell? ⟨gz,2,none⟩=some (.int .i64 0):=hZ5.cell 2
     have y0:w5.cell? ⟨gy,0,none⟩=some (.int .i64 0):=hY5.cell 0
     have y1:w5.cell? ⟨gy,1,none⟩=some (.int .i64 0):=hY5.cell 1
     have y2:w5.cell? ⟨gy,2,none⟩=some (.int .i64 0):=hY5.cell 2
     have fy0:=hY5.frozen 0
     have fy1:=hY5.frozen 1
     have fy2:=hY5.frozen 2
     have fz1:=hZ5.frozen 1
     go_wp2_with fail
     refine (rfail_any g gv fv sk 2 w5 r5).mono ?_
     rintro e w6 ⟨rfl,k6,r6⟩
     have hZ6:=hZ5.keepM k6 (by omega)
     have hY6:=hY5.keepM k6 (by omega)
     have k7:=k5.trans k6
     clear hlo hzl hyl z0 z1 z2 y0 y1 y2 fy0 fy1 fy2 fz1
     have hlo:=r6.lt
     have hzl:=hZ6.lt
     have hyl:=hY6.lt
     have z0:w6.cell? ⟨gz,0,none⟩=some (.int .i64 K):=hZ6.cell 0
     have z1:w6.cell? ⟨gz,1,none⟩=some (.int .i64 3):=hZ6.cell 1
     have z2:w6.cell? ⟨gz,2,none⟩=some (.int .i64 0):=hZ6.cell 2
     have y0:w6.cell? ⟨gy,0,none⟩=some (.int .i64 0):=hY6.cell 0
     have y1:w6.cell? ⟨gy,1,none⟩=some (.int .i64 0):=hY6.cell 1
     have y2:w6.cell? ⟨gy,2,none⟩=some (.int .i64 0):=hY6.cell 2
     have fy0:=hY6.frozen 0
     have fy1:=hY6.frozen 1
     have fy2:=hY6.frozen 2
     have fz1:=hZ6.frozen 1
     go_wp2_with fail
     refine bodyPost_ret (v:=.agg #[.int .i64 K,.int .i64 3,.int .i64 0]) (by simp [results,Tryz.results38,go_sem,(((hY6.put 0 (.int .i64 K)).put 1 (.int .i64 3)).put 2 (.int .i64 0)).cell]) rfl ?_
     rw [← HL.out]
     exact ⟨rfl,(((k7).setCell hgyw _).setCell hgyw _).setCell hgyw _,(((r6).far hgy2 _).far hgy2 _).far hgy2 _⟩
    ·rw [if_neg (by simp;omega)] at hL1
     have HL:=Lib.hid hL1
     clear hL1
     have h3b:((n:Int) == 3)=false:=by simp;omega
     go_wp2_with fail
     refine ho.mono ?_
     rintro e w5 ⟨rfl,rfl⟩
     go_wp2_with fail
     refine hi.mono ?_
     rintro e w5 ⟨rfl,hb5⟩
     have hZ5:=hZ.below hb5 hzl
     have hY5:=hY.below hb5 hyl
     have r5:=hRk.below hb5
     have k5:=hkm.trans (KeepM.of hb5)
     clear hlo hzl hyl z0 z1 z2 y0 y1 y2 fy0 fy1 fy2 fz1
     have hlo:=r5.lt
     have hzl:=hZ5.lt
     have hyl:=hY5.lt
     have z0:w5.cell? ⟨gz,0,none⟩=some (.int .i64 K):=hZ5.cell 0
     have z1:w5.cell? ⟨gz,1,none⟩=some (.int .i64 n):=hZ5.cell 1
     have z2:w5.cell? ⟨gz,2,none⟩=some (.int .i64 0):=hZ5.cell 2
     have y0:w5.cell? ⟨gy,0,none⟩=some (.int .i64 0):=hY5.cell 0
     have y1:w5.cell? ⟨gy,1,none⟩=some (.int .i64 0):=hY5.cell 1
     have y2:w5.cell? ⟨gy,2,none⟩=some (.int .i64 0):=hY5.cell 2
     have fy0:=hY5.frozen 0
     have fy1:=hY5.frozen 1
     have fy2:=hY5.frozen 2
     have fz1:=hZ5.frozen 1
     go_wp2_with fail
     refine (rnext_any g gv fv sk w5 r5).mono ?_
     rintro e w6 ⟨rfl,k6,r6⟩
     have hZ6:=hZ5.keepM k6 (by omega)
     have hY6:=hY5.keepM k6 (by omega)
     have k7:=k5.trans k6
     clear hlo hzl hyl z0 z1 z2 y0 y1 y2 fy0 fy1 fy2 fz1
     have hlo:=r6.lt
     have hzl:=hZ6.lt
     have hyl:=hY6.lt
     have z0:w6.cell? ⟨gz,0,none⟩=some (.int .i64 K):=hZ6.cell 0
     have z1:w6.cell? ⟨gz,1,none⟩=some (.int .i64 n):=hZ6.cell 1
     have z2:w6.cell? ⟨gz,2,none⟩=some (.int .i64 0):=hZ6.cell 2
     have y0:w6.cell? ⟨gy,0,none⟩=some (.int .i64 0):=hY6.cell 0
     have y1:w6.cell? ⟨gy,1,none⟩=some (.int .i64 0):=hY6.cell 1
     have y2:w6.cell? ⟨gy,2,none⟩=some (.int .i64 0):=hY6.cell 2
     have fy0:=hY6.frozen 0
     have fy1:=hY6.frozen 1
     have fy2:=hY6.frozen 2
     have fz1:=hZ6.frozen 1
     go_wp2_with fail
     go_roundw
     case rel=>
      refine ⟨n + 1,rnext sk,by omega,r6.far (by simp;omega) _,k7.setCell hgzw _,hZ6.put 1 _,hY6.far (by simp;omega) _,Lib.hid ?_⟩
      rw [← HL.out]
      congr 1;omega
     case measure=>
      unfold cellNat
      simp [intOf,(hZ6.put 1 (.int .i64 ((n:Int) + 1))).cell,hZ.cell]
      omega
theorem rlength_any (g:Nat) (gv fv:Value) (s:RS) (w:World) (hr:RdQ w g gv fv s):Calls Tryz.prog 48 #[.pointer (some ⟨g,0,none⟩)] w (DoQ (.int .i64 (rlength s).1) g gv fv (rlength s).2 w):=by
 obtain ⟨c,q,off,n,c0,hn,hn2,hc,hq,hl,t0,t1,t2,t3⟩:=hr.first
 have HR:=Lib.hid hr
 clear hr
 have hx:=fun W h=>rnumber_any g gv fv s W h
 unfold rlength rbetween
 obtain ⟨t,ht⟩:∃ t,hdT s.ts=t:=⟨_,rfl⟩
 rw [ht] at t0 t1 t2 t3 ⊢
 clear ht
 obtain ⟨k,tx,m,p⟩:=t
 simp only at t0 t1 t2 t3 ⊢
 obtain ⟨v,hv⟩:∃ v,Hid ((rnumber s).1=v):=⟨_,Lib.hid rfl⟩
 obtain ⟨s1,hs1⟩:∃ v,Hid ((rnumber s).2=v):=⟨_,Lib.hid rfl⟩
 rw [hv.out,hs1.out] at hx ⊢
 have hz:=BlkIs.fresh w 43 #[.int .i64 k,.string ⟨tx.toArray⟩,.int .i64 m,.int .i64 p]
 have hbz:=below_alloc w (.cells #[.int .i64 k,.string ⟨tx.toArray⟩,.int .i64 m,.int .i64 p] 43)
 have kz:KeepM g w (w.alloc (.cells #[.int .i64 k,.string ⟨tx.toArray⟩,.int .i64 m,.int .i64 p] 43)):=KeepM.of hbz
 have ho:=fun W h=>rok_any g gv fv s1 W h
 cases hok:rok s1
 ·rw [hok] at ho
  rw [Bool.false_and,if_neg (by decide)]
  go_enter Tryz.func48,Tryz.ntmps48
  go_wp2_with fail
  refine (hx _ (HR.out.below hbz)).mono ?_
  rintro e w2 ⟨rfl,k2,r2⟩
  go_wp2_with fail
  refine (ho _ r2).mono ?_
  rintro e w1 ⟨rfl,rfl⟩
  go_wp2_with fail
  refine (rmust_any g gv fv _ _ _ r2).mono ?_
  rintro e w3 ⟨rfl,k3,r3⟩
  go_wp2_with fail
  go_ret
  exact ⟨rfl,(kz.trans k2).trans k3,r3⟩
 ·rw [hok] at ho
  rw [Bool.true_and]
  by_cases hv1:1≤v∧v≤64
  ·have e1:decide (v<1)=false:=by simp;omega
   have e2:decide ((64:Int)<v)=false:=by simp;omega
   rw [e1,e2,Bool.or_false,if_neg (by decide)]
   clear hv1
   go_enter Tryz.func48,Tryz.ntmps48
   go_wp2_with fail
   refine (hx _ (HR.out.below hbz)).mono ?_
   rintro e w2 ⟨rfl,k2,r2⟩
   go_wp2_with fail
   refine (ho _ r2).mono ?_
   rintro e w1 ⟨rfl,rfl⟩
   go_wp2_with fail
   refine (rmust_any g gv fv _ _ _ r2).mono ?_
   rintro e w3 ⟨rfl,k3,r3⟩
   go_wp2_with fail
   go_ret
   exact ⟨rfl,(kz.trans k2).trans k3,r3⟩
  ·have e1:(decide (v<1) || decide ((64:Int)<v))=true:=by simp;omega
   rw [e1,if_pos rfl]
   go_enter Tryz.func48,Tryz.ntmps48
   by_cases hlo:v<1
   ·have e2:decide (v<1)=true:=by simp;omega
    clear hv1 e1
    go_wp2_with fail
    refine (hx _ (HR.out.below hbz)).mono ?_
    rintro e w2 ⟨rfl,k2,r2⟩
    have hz2:=hz.keepM k2 (by omega)
    have y3:w2.cell? ⟨w.heap.size,3,none⟩=some (.int .i64 p):=hz2.cell 3
    have hlz:=hz2.lt
    go_wp2_with fail
    refine (ho _ r2).mono ?_
    rintro e w1 ⟨rfl,rfl⟩
    go_wp2_with fail
    refine (rfailAt_any g gv fv _ 10 p _ r2).mono ?_
    rintro e w4 ⟨rfl,k4,r4⟩
    go_wp2_with fail
    refine (rmust_any g gv fv _ _ _ r4).mono ?_
    rintro e w3 ⟨rfl,k3,r3⟩
    go_wp2_with fail
    go_ret
    exact ⟨rfl,((kz.trans k2).trans k4).trans k3,r3⟩
   ·have e2:decide (v<1)=false:=by simp;omega
    have e3:decide ((64:Int)<v)=true:=by simp;omega
    clear hv1 e1
    go_wp2_with fail
    refine (hx _ (HR.out.below hbz)).mono ?_
    rintro e w2 ⟨rfl,k2,r2⟩
    have hz2:=hz.keepM k2 (by omega)
    have y3:w2.cell? ⟨w.heap.size,3,none⟩=some (.int .i64 p):=hz2.cell 3
    have hlz:=hz2.lt
    go_wp2_with fail
    refine (ho _ r2).mono ?_
    rintro e w1 ⟨rfl,rfl⟩
    go_wp2_with fail
    refine (rfailAt_any g gv fv _ 10 p _ r2).mono ?_
    rintro e w4 ⟨rfl,k4,r4⟩
    go_wp2_with fail
    refine (rmust_any g gv fv _ _ _ r4).mono ?_
    rintro e w3 ⟨rfl,k3,r3⟩
    go_wp2_with fail
    go_ret
    exact ⟨rfl,((kz.trans k2).trans k4).trans k3,r3⟩
end Go.Proofs.YtdmacgoeikjdbaaGreatDoor

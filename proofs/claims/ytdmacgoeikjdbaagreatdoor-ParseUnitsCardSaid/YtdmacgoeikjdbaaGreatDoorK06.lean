/- Programs as data: types, expressions, statements, declarations, functi -/
import Derived.Test.YtdmacgoeikjdbaaGreatDoorK01
import Derived.Test.YtdmacgoeikjdbaaGreatDoorK03
import Derived.BigQuiet
import Derived.Deep.QuietTactic
set_option maxHeartbeats 2000000
namespace Go.Proofs.YtdmacgoeikjdbaaGreatDoor
open Go.RowKit
structure Ty where
 kind:Int
 ptr:Int
 len:Int
def noTy:Ty:=⟨0,0,0⟩
inductive Ex where
 | mk (op:Int) (ty:Ty) (name:List UInt8) (n:Int) (kids:List Ex) (pos:Int)
def Ex.op:Ex→Int | .mk o _ _ _ _ _=>o
def Ex.ty:Ex→Ty | .mk _ t _ _ _ _=>t
def Ex.name:Ex→List UInt8 | .mk _ _ s _ _ _=>s
def Ex.n:Ex→Int | .mk _ _ _ n _ _=>n
def Ex.kids:Ex→List Ex | .mk _ _ _ _ k _=>k
def Ex.pos:Ex→Int | .mk _ _ _ _ _ p=>p
def noEx:Ex:=.mk 0 noTy [] 0 [] 0
inductive St where
 | mk (op:Int) (ex:List Ex) (body:List St) (ty:Ty) (name:List UInt8) (n:Int) (pos:Int)
def St.op:St→Int | .mk o _ _ _ _ _ _=>o
def St.ex:St→List Ex | .mk _ e _ _ _ _ _=>e
def St.body:St→List St | .mk _ _ b _ _ _ _=>b
def St.ty:St→Ty | .mk _ _ _ t _ _ _=>t
def St.name:St→List UInt8 | .mk _ _ _ _ s _ _=>s
def St.n:St→Int | .mk _ _ _ _ _ n _=>n
def St.pos:St→Int | .mk _ _ _ _ _ _ p=>p
def noSt:St:=.mk 0 [] [] noTy [] 0 0
structure De where
 name:List UInt8
 ty:Ty
 init:List Int
 pos:Int
structure Fn where
 name:List UInt8
 ret:Ty
 params:List De
 body:List St
 locals:List De
 pos:Int
structure Un where
 globals:List De
 funcs:List Fn
def tyV (t:Ty):List Value:=[.int .i64 t.kind,.int .i64 t.ptr,.int .i64 t.len]
def strV8 (s:List UInt8):Value:=.string ⟨s.toArray⟩
mutual
def encEx:Ex→D
 | .mk o t s n ks p=>.st [.int .i64 o,.int .i64 t.kind,.int .i64 t.ptr,.int .i64 t.len,.str s,.int .i64 n,.lst 8 (encExs ks),.int .i64 p]
def encExs:List Ex→List D
 | []=>[]
 | x :: l=>encEx x :: encExs l
end
theorem encExs_map:∀ l:List Ex,encExs l=l.map encEx
 | []=>by simp [encExs]
 | x :: l=>by simp [encExs,encExs_map l]
theorem encEx_eq (x:Ex):encEx x=.st [.int .i64 x.op,.int .i64 x.ty.kind,.int .i64 x.ty.ptr,.int .i64 x.ty.len,.str x.name,.int .i64 x.n,.lst 8 (x.kids.map encEx),.int .i64 x.pos]:=by
 cases x
 simp only [encEx,encExs_map]
 rfl
mutual
def encSt:St→D
 | .mk o e b t s n p=>.st [.int .i64 o,.lst 8 (e.map encEx),.lst 9 (encSts b),.int .i64 t.kind,.int .i64 t.ptr,.int .i64 t.len,.str s,.int .i64 n,.int .i64 p]
def encSts:List St→List D
 | []=>[]
 | x :: l=>encSt x :: encSts l
end
theorem encSts_map:∀ l:List St,encSts l=l.map encSt
 | []=>by simp [encSts]
 | x :: l=>by simp [encSts,encSts_map l]
theorem encSt_eq (x:St):encSt x=.st [.int .i64 x.op,.lst 8 (x.ex.map encEx),.lst 9 (x.body.map encSt),.int .i64 x.ty.kind,.int .i64 x.ty.ptr,.int .i64 x.ty.len,.str x.name,.int .i64 x.n,.int .i64 x.pos]:=by
 cases x
 simp only [encSt,encSts_map]
 rfl
def encDe (d:De):D:=.st [.str d.name,.int .i64 d.ty.kind,.int .i64 d.ty.ptr,.int .i64 d.ty.len,.lst 1 (d.init.map (.int .i64)),.int .i64 d.pos]
def encFn (f:Fn):D:=.st [.str f.name,.int .i64 f.ret.kind,.int .i64 f.ret.ptr,.int .i64 f.ret.len,.lst 6 (f.params.map encDe),.lst 9 (f.body.map encSt),.lst 6 (f.locals.map encDe),.int .i64 f.pos]
def encTok (t:Tok):D:=.st [.int .i64 t.kind,.str t.text,.int .i64 t.n,.int .i64 t.pos]
def exC (x:Ex) (A:Option Addr) (c:Nat):List Value:=[.int .i64 x.op,.int .i64 x.ty.kind,.int .i64 x.ty.ptr,.int .i64 x.ty.len,strV8 x.name,.int .i64 x.n,.slice A x.kids.length c,.int .i64 x.pos]
def stC (x:St) (A:Option Addr) (c:Nat) (B:Option Addr) (d:Nat):List Value:=[.int .i64 x.op,.slice A x.ex.length c,.slice B x.body.length d,.int .i64 x.ty.kind,.int .i64 x.ty.ptr,.int .i64 x.ty.len,strV8 x.name,.int .i64 x.n,.int .i64 x.pos]
def tokC (t:Tok):List Value:=[.int .i64 t.kind,strV8 t.text,.int .i64 t.n,.int .i64 t.pos]
theorem repAll_nil {w:World} {ok:Nat→Prop} {cs:List Value} (h:RepAll w ok [] cs):cs=[]:=by unfold RepAll at h;exact h
theorem repAll_int {w:World} {ok:Nat→Prop} {k:IntKind} {n:Int} {ds:List D} {cs:List Value}:RepAll w ok (.int k n :: ds) cs ↔ ∃ b,cs=.int k n :: b∧RepAll w ok ds b:=by
 constructor
 ·intro h
  unfold RepAll at h
  obtain ⟨a,b,rfl,h1,h2⟩:=h
  unfold Rep at h1
  exact ⟨b,by rw [h1];rfl,h2⟩
 ·rintro ⟨b,rfl,h⟩
  unfold RepAll
  exact ⟨[.int k n],b,rfl,by unfold Rep;rfl,h⟩
theorem repAll_str {w:World} {ok:Nat→Prop} {s:List UInt8} {ds:List D} {cs:List Value}:RepAll w ok (.str s :: ds) cs ↔ ∃ b,cs=strV8 s :: b∧RepAll w ok ds b:=by
 constructor
 ·intro h
  unfold RepAll at h
  obtain ⟨a,b,rfl,h1,h2⟩:=h
  unfold Rep at h1
  exact ⟨b,by rw [h1];rfl,h2⟩
 ·rintro ⟨b,rfl,h⟩
  unfold RepAll
  exact ⟨[strV8 s],b,rfl,by unfold Rep;rfl,h⟩
theorem repAll_lst {w:World} {ok:Nat→Prop} {z:Nat} {xs ds:List D} {cs:List Value}:RepAll w ok (.lst z xs :: ds) cs ↔ ∃ A c b,cs=.slice A xs.length c :: b∧Rep w ok (.lst z xs) [.slice A xs.length c]∧RepAll w ok ds b:=by
 constructor
 ·intro h
  unfold RepAll at h
  obtain ⟨a,b,rfl,h1,h2⟩:=h
  have h1':=h1
  unfold Rep at h1
  obtain ⟨A,c,rfl,_⟩:=h1
  exact ⟨A,c,b,rfl,h1',h2⟩
 ·rintro ⟨A,c,b,rfl,h1,h⟩
  unfold RepAll
  exact ⟨[.slice A xs.length c],b,rfl,h1,h⟩
theorem rep_ex {w:World} {ok:Nat→Prop} {x:Ex} {cs:List Value}:Rep w ok (encEx x) cs ↔ ∃ A c,cs=exC x A c∧Rep w ok (.lst 8 (x.kids.map encEx)) [.slice A x.kids.length c]:=by
 rw [encEx_eq]
 constructor
 ·intro h
  unfold Rep at h
  obtain ⟨_,rfl,q1⟩:=repAll_int.1 h
  obtain ⟨_,rfl,q2⟩:=repAll_int.1 q1
  obtain ⟨_,rfl,q3⟩:=repAll_int.1 q2
  obtain ⟨_,rfl,q4⟩:=repAll_int.1 q3
  obtain ⟨_,rfl,q5⟩:=repAll_str.1 q4
  obtain ⟨_,rfl,q6⟩:=repAll_int.1 q5
  obtain ⟨A,c,_,rfl,h1,q7⟩:=repAll_lst.1 q6
  obtain ⟨_,rfl,q8⟩:=repAll_int.1 q7
  obtain rfl:=repAll_nil q8
  rw [List.length_map] at h1
  exact ⟨A,c,by simp [exC],h1⟩
 ·rintro ⟨A,c,rfl,h⟩
  unfold Rep
  have e:(x.kids.map encEx).length=x.kids.length:=List.length_map _
  exact repAll_int.2 ⟨_,rfl,repAll_int.2 ⟨_,rfl,repAll_int.2 ⟨_,rfl,repAll_int.2 ⟨_,rfl,repAll_str.2 ⟨_,rfl,repAll_int.2 ⟨_,rfl,repAll_lst.2 ⟨A,c,_,by rw [e],by rw [e];exact h,repAll_int.2 ⟨_,rfl,by unfold RepAll;rfl⟩⟩⟩⟩⟩⟩⟩⟩
theorem rep_st {w:World} {ok:Nat→Prop} {x:St} {cs:List Value}:Rep w ok (encSt x) cs ↔ ∃ A c B d,cs=stC x A c B d∧Rep w ok (.lst 8 (x.ex.map encEx)) [.slice A x.ex.length c]∧Rep w ok (.lst 9 (x.body.map encSt)) [.slice B x.body.length d]:=by
 rw [encSt_eq]
 constructor
 ·intro h
  unfold Rep at h
  obtain ⟨_,rfl,q9⟩:=repAll_int.1 h
  obtain ⟨A,c,_,rfl,h1,q10⟩:=repAll_lst.1 q9
  obtain ⟨B,d,_,rfl,h2,q11⟩:=repAll_lst.1 q10
  obtain ⟨_,rfl,q12⟩:=repAll_int.1 q11
  obtain ⟨_,rfl,q13⟩:=repAll_int.1 q12
  obtain ⟨_,rfl,q14⟩:=repAll_int.1 q13
  obtain ⟨_,rfl,q15⟩:=repAll_str.1 q14
  obtain ⟨_,rfl,q16⟩:=repAll_int.1 q15
  obtain ⟨_,rfl,q17⟩:=repAll_int.1 q16
  obtain rfl:=repAll_nil q17
  rw [List.length_map] at h1 h2
  exact ⟨A,c,B,d,by simp [stC],h1,h2⟩
 ·rintro ⟨A,c,B,d,rfl,h1,h2⟩
  unfold Rep
  have e1:(x.ex.map encEx).length=x.ex.length:=List.length_map _
  have e2:(x.body.map encSt).length=x.body.length:=List.length_map _
  exact repAll_int.2 ⟨_,rfl,repAll_lst.2 ⟨A,c,_,by rw [e1],by rw [e1];exact h1,repAll_lst.2 ⟨B,d,_,by rw [e2],by rw [e2];exact h2,repAll_int.2 ⟨_,rfl,repAll_int.2 ⟨_,rfl,repAll_int.2 ⟨_,rfl,repAll_str.2 ⟨_,rfl,repAll_int.2 ⟨_,rfl,repAll_int.2 ⟨_,rfl,by unfold RepAll;rfl⟩⟩⟩⟩⟩⟩⟩⟩⟩
theorem rep_tok {w:World} {ok:Nat→Prop} {t:Tok} {cs:List Value}:Rep w ok (encTok t) cs ↔ cs=tokC t:=by
 unfold encTok
 constructor
 ·intro h
  unfold Rep at h
  obtain ⟨_,rfl,q18⟩:=repAll_int.1 h
  obtain ⟨_,rfl,q19⟩:=repAll_str.1 q18
  obtain ⟨_,rfl,q20⟩:=repAll_int.1 q19
  obtain ⟨_,rfl,q21⟩:=repAll_int.1 q20
  obtain rfl:=repAll_nil q21
  rfl
 ·rintro rfl
  unfold Rep
  exact repAll_int.2 ⟨_,rfl,repAll_str.2 ⟨_,rfl,repAll_int.2 ⟨_,rfl,repAll_int.2 ⟨_,rfl,by unfold RepAll;rfl⟩⟩⟩⟩
end Go.Proofs.YtdmacgoeikjdbaaGreatDoor
namespace Go.Proofs.YtdmacgoeikjdbaaGreatDoor
open Go.RowKit
structure RS where
 ts:List Tok
 err:Int
 pos:Int
def hdT:List Tok→Tok
 | []=>noTokT
 | t :: _=>t
def rok (s:RS):Bool:=s.err == 0
def rfailAt (e p:Int) (s:RS):RS:=if rok s then ⟨s.ts,e,p⟩ else s
def rfail (e:Int) (s:RS):RS:=rfailAt e (hdT s.ts).pos s
def rnext (s:RS):RS:=if 1<s.ts.length then ⟨s.ts.tail,s.err,s.pos⟩ else s
def isT (x:List UInt8) (t:Tok):Bool:=(t.kind == 3 || t.kind == 4) && t.text == x
def ris (x:List UInt8) (s:RS):Bool:=isT x (hdT s.ts)
def rtake (x:List UInt8) (s:RS):Bool × RS:=if rok s && ris x s then (true,rnext s) else (false,s)
def rmust (x:List UInt8) (s:RS):RS:=if rok s then (if (rtake x s).1 then (rtake x s).2 else rfail 4 (rtake x s).2) else s
def rkindTok (k:Int) (s:RS):RS:=if rok s && (hdT s.ts).kind != k then rfail 4 s else s
def rname (s:RS):(List UInt8 × Int) × RS:=if rok (rkindTok 1 s) then (((hdT s.ts).text,(hdT s.ts).pos),rnext (rkindTok 1 s)) else (([],0),rkindTok 1 s)
def rnumber (s:RS):Int × RS:=if rok (rkindTok 2 s) then ((hdT s.ts).n,rnext (rkindTok 2 s)) else (0,rkindTok 2 s)
def rvalue (s:RS):Int × RS:=if (rtake [45] s).1 then (wrap64 (-(rnumber (rtake [45] s).2).1),(rnumber (rtake [45] s).2).2) else rnumber (rtake [45] s).2
def bVoid:List UInt8:=[118,111,105,100]
def bUnsigned:List UInt8:=[117,110,115,105,103,110,101,100]
def bChar:List UInt8:=[99,104,97,114]
def bShort:List UInt8:=[115,104,111,114,116]
def bInt:List UInt8:=[105,110,116]
def bLong:List UInt8:=[108,111,110,103]
def typeWords:List (List UInt8):=[bVoid,bChar,bShort,bInt,bLong,bUnsigned]
def isTy (t:Tok):Bool:=t.kind == 4 && decide (t.text ∈ typeWords)
def rtyped (at_:Nat) (s:RS):Bool:=decide (at_<s.ts.length) && isTy (s.ts.getD at_ noTokT)
def rkindL (u:Int):List (List UInt8)→Int→RS→Int × RS
 | [],_,s=>(0,rfail 4 s)
 | w :: l,k,s=>if (rtake w s).1 then (k + u,(rtake w s).2) else rkindL u l (k + 2) (rtake w s).2
def rkind (s:RS):Int × RS:=
 if (rtake bVoid s).1 then (0,(rtake bVoid s).2)
 else rkindL (if (rtake bUnsigned (rtake bVoid s).2).1 then 1 else 0) [bChar,bShort,bInt,bLong] 1 (rtake bUnsigned (rtake bVoid s).2).2
def rstars:Nat→Int→RS→Int × RS
 | 0,n,s=>(n,s)
 | f + 1,n,s=>if rok s && ris [42] s then (if n == 3 then (n,rfail 2 s) else rstars f (n + 1) (rnext s)) else (n,s)
def rtyp (s:RS):Ty × RS:=(⟨(rkind s).1,(rstars 5 0 (rkind s).2).1,0⟩,(rstars 5 0 (rkind s).2).2)
def rbetween (n p:Int) (s:RS):RS:=if rok s && (decide (n<1) || decide (64<n)) then rfailAt 10 p s else s
def rlength (s:RS):Int × RS:=((rnumber s).1,rmust [93] (rbetween (rnumber s).1 (hdT s.ts).pos (rnumber s).2))
def rfull (k len:Int) (s:RS):RS:=if k == len && (ris [45] s || (hdT s.ts).kind == 2) then rfail 10 s else s
def rvals:Nat→Int→List Int→RS→Option (List Int × RS)
 | 0,_,_,_=>none
 | f + 1,len,acc,s=>
  if rok s then
   let v:=rvalue (rfull acc.length len s)
   if (rtake [44] v.2).1 then rvals f len (acc ++ [v.1]) (rtake [44] v.2).2 else some (acc ++ [v.1],(rtake [44] v.2).2)
  else some (acc,s)
def rparams1:Nat→List De→RS→Option (List De × RS)
 | 0,_,_=>none
 | f + 1,acc,s=>
  if rok s then
   if acc.length=4 then some (acc,rfail 2 s)
   else
    let t:=rtyp s
    let n:=rname t.2
    let d:De:=⟨n.1.1,t.1,[],n.1.2⟩
    if (rtake [44] n.2).1 then rparams1 f (acc ++ [d]) (rtake [44] n.2).2 else some (acc ++ [d],(rtake [44] n.2).2)
  else some (acc,s)
def rparams (f:Nat) (s:RS):Option (List De × RS):=
 if (rtake [41] s).1 then some ([],(rtake [41] s).2)
 else
  let s1:=(rtake [41] s).2
  if ris bVoid s1 && (decide (1<s1.ts.length) && ((s1.ts.getD 1 noTokT).kind == 3 && (s1.ts.getD 1 noTokT).text == [41])) then some ([],rnext (rnext s1))
  else (rparams1 f [] s1).bind fun r=>some (r.1,rmust [41] r.2)
def lookS (x:List UInt8):List (List UInt8 × Int)→Int
 | []=>0
 | (y,n) :: l=>if y=x then n else lookS x l
def assignL:List (List UInt8 × Int):=[([42,61],15),([47,61],16),([37,61],17),([43,61],18),([45,61],19),([60,60,61],20),([62,62,61],21),([38,61],28),([94,61],29),([124,61],30)]
def rassigns (x:List UInt8):Int:=lookS x assignL
def levels:List (List (List UInt8 × Int)):=
 [[([124,124],32)],[([38,38],31)],[([124],30)],[([94],29)],[([38],28)],[([61,61],26),([33,61],27)],[([60],22),([62],24),([60,61],23),([62,61],25)],
  [([60,60],20),([62,62],21)],[([43],18),([45],19)],[([42],15),([47],16),([37],17)]]
def rlevel (n:Nat) (x:List UInt8):Int:=lookS x (levels.getD n [])
def prefixes:List (List UInt8 × Int):=[([45],6),([126],7),([33],8),([42],4),([38],5),([43,43],11),([45,45],12)]
def runop (s:RS):List (List UInt8 × Int)→Option Int
 | []=>none
 | (y,n) :: l=>if (rtake y s).1 then some n else runop s l
def rdeep (d:Int) (s:RS):RS:=if rok s && decide (20<d) then rfail 2 s else s
def bSizeof:List UInt8:=[115,105,122,101,111,102]
mutual
def rexpr:Nat→Int→RS→Option (Ex × RS)
 | 0,_,_=>none
 | f + 1,d,s=>(rcond f d (rdeep d s)).bind fun a=>
  if !rok a.2 || ((hdT a.2.ts).kind != 3 || ((hdT a.2.ts).text != [61] && rassigns (hdT a.2.ts).text == 0)) then some a
  else (rexpr f (d + 1) (rnext a.2)).bind fun b=>some (.mk 34 noTy [] (rassigns (hdT a.2.ts).text) [a.1,b.1] (hdT a.2.ts).pos,b.2)
def rcond:Nat→Int→RS→Option (Ex × RS)
 | 0,_,_=>none
 | f + 1,d,s=>(rbinary f d 0 s).bind fun a=>
  if (rtake [63] a.2).1 then
   (rexpr f (d + 1) (rtake [63] a.2).2).bind fun b=>(rcond f (d + 1) (rdeep (d + 1) (rmust [58] b.2))).bind fun c=>some (.mk 33 noTy [] 0 [a.1,b.1,c.1] (hdT a.2.ts).pos,c.2)
  else some (a.1,(rtake [63] a.2).2)
def rbinary:Nat→Int→Nat→RS→Option (Ex × RS)
 | 0,_,_,_=>none
 | f + 1,d,n,s=>if n=10 then runary f d s else (rbinary f d (n + 1) s).bind fun a=>rbinloop f d n a.1 a.2
def rbinloop:Nat→Int→Nat→Ex→RS→Option (Ex × RS)
 | 0,_,_,_,_=>none
 | f + 1,d,n,a,s=>
  if rok s && ((hdT s.ts).kind == 3 && rlevel n (hdT s.ts).text != 0) then
   (rbinary f d (n + 1) (rnext s)).bind fun b=>rbinloop f d n (.mk (rlevel n (hdT s.ts).text) noTy [] 0 [a,b.1] (hdT s.ts).pos) b.2
  else some (a,s)
def roperand:Nat→Int→RS→Option (List Ex × RS)
 | 0,_,_=>none
 | f + 1,d,s=>(runary f (d + 1) (rdeep (d + 1) s)).bind fun x=>some ([x.1],x.2)
def runary:Nat→Int→RS→Option (Ex × RS)
 | 0,_,_=>none
 | f + 1,d,s=>
  if !rok s then some (noEx,s)
  else match runop s prefixes with
   | some op=>(roperand f d (rnext s)).bind fun k=>some (.mk op noTy [] 0 k.1 (hdT s.ts).pos,k.2)
   | none=>
    if ris [40] s && rtyped 1 s then
     (roperand f d (rmust [41] (rtyp (rnext s)).2)).bind fun k=>some (.mk 9 (rtyp (rnext s)).1 [] 0 k.1 (hdT s.ts).pos,k.2)
    else if (rtake bSizeof s).1 then
     let s1:=rmust [40] (rtake bSizeof s).2
     if rok s1 then some (.mk 10 (rtyp s1).1 [] 0 [] (hdT s.ts).pos,rmust [41] (rtyp s1).2) else some (.mk 10 noTy [] 0 [] (hdT s.ts).pos,rmust [41] s1)
    else rpostfix f d (rtake bSizeof s).2
def rpostfix:Nat→Int→RS→Option (Ex × RS)
 | 0,_,_=>none
 | f + 1,d,s=>(rprimary f d s).bind fun a=>rpostloop f d a.1 a.2
def rpostloop:Nat→Int→Ex→RS→Option (Ex × RS)
 | 0,_,_,_=>none
 | f + 1,d,a,s=>
  if rok s then
   if (rtake [91] s).1 then (rexpr f (d + 1) (rtake [91] s).2).bind fun i=>rpostloop f d (.mk 3 noTy [] 0 [a,i.1] (hdT s.ts).pos) (rmust [93] i.2)
   else if (rtake [43,43] (rtake [91] s).2).1 then rpostloop f d (.mk 13 noTy [] 0 [a] (hdT s.ts).pos) (rtake [43,43] (rtake [91] s).2).2
   else if (rtake [45,45] (rtake [43,43] (rtake [91] s).2).2).1 then rpostloop f d (.mk 14 noTy [] 0 [a] (hdT s.ts).pos) (rtake [45,45] (rtake [43,43] (rtake [91] s).2).2).2
   else some (a,(rtake [45,45] (rtake [43,43] (rtake [91] s).2).2).2)
  else some (a,s)
def rprimary:Nat→Int→RS→Option (Ex × RS)
 | 0,_,_=>none
 | f + 1,d,s=>
  if (rtake [40] s).1 then (rexpr f (d + 1) (rtake [40] s).2).bind fun e=>some (e.1,rmust [41] e.2)
  else
   let s1:=(rtake [40] s).2
   let t:=hdT s.ts
   if t.kind == 2 then some (.mk 1 noTy [] t.n [] t.pos,rnext s1)
   else if t.kind != 1 then some (noEx,rfail 4 s1)
   else
    let s2:=rnext s1
    if (rtake [40] s2).1 then
     let s3:=(rtake [40] s2).2
     if (rtake [41] s3).1 then some (.mk 35 noTy t.text 0 [] t.pos,(rtake [41] s3).2)
     else (rargs f d [] (rtake [41] s3).2).bind fun k=>some (.mk 35 noTy t.text 0 k.1 t.pos,rmust [41] k.2)
    else some (.mk 2 noTy t.text 0 [] t.pos,(rtake [40] s2).2)
def rargs:Nat→Int→List Ex→RS→Option (List Ex × RS)
 | 0,_,_,_=>none
 | f + 1,d,acc,s=>
  if rok s then
   if acc.length=4 then some (acc,rfail 2 s)
   else (rexpr f (d + 1) s).bind fun x=>if (rtake [44] x.2).1 then rargs f d (acc ++ [x.1]) (rtake [44] x.2).2 else some (acc ++ [x.1],(rtake [44] x.2).2)
  else some (acc,s)
end
def rparen (f:Nat) (d:Int) (s:RS):Option (List Ex × RS):=(rexpr f d (rmust [40] s)).bind fun e=>some ([e.1],rmust [41] e.2)
def rmaybe (f:Nat) (d:Int) (x:List UInt8) (s:RS):Option (Ex × RS):=
 if !rok s then some (noEx,s) else if (rtake x s).1 then some (noEx,(rtake x s).2) else (rexpr f d (rtake x s).2).bind fun e=>some (e.1,rmust x e.2)
def bIf:List UInt8:=[105,102]
def bElse:List UInt8:=[101,108,115,101]
def bWhile:List UInt8:=[119,104,105,108,101]
def bSwitch:List UInt8:=[115,119,105,116,99,104]
def bDo:List UInt8:=[100,111]
def bFor:List UInt8:=[102,111,114]
def bCase:List UInt8:=[99,97,115,101]
def bDefault:List UInt8:=[100,101,102,97,117,108,116]
def bBreak:List UInt8:=[98,114,101,97,107]
def bContinue:List UInt8:=[99,111,110,116,105,110,117,101]
def bReturn:List UInt8:=[114,101,116,117,114,110]
def bGoto:List UInt8:=[103,111,116,111]
mutual
def rblock:Nat→Int→RS→Option (List St × RS)
 | 0,_,_=>none
 | f + 1,d,s=>(rblkloop f d [] (rmust [123] s)).bind fun r=>some (r.1,rmust [125] r.2)
def rblkloop:Nat→Int→List St→RS→Option (List St × RS)
 | 0,_,_,_=>none
 | f + 1,d,acc,s=>
  if rok s && !ris [125] s then
   if (hdT s.ts).kind == 0 then some (acc,rfail 4 s)
   else (rstmt f (d + 1) s).bind fun x=>rblkloop f d (acc ++ [x.1]) x.2
  else some (acc,s)
def rstmt:Nat→Int→RS→Option (St × RS)
 | 0,_,_=>none
 | f + 1,d,s0=>
  let s:=rdeep d s0
  let t:=hdT s.ts
  if !rok s then some (noSt,s)
  else if (rtake [59] s).1 then some (.mk 16 [] [] noTy [] 0 t.pos,(rtake [59] s).2)
  else if ris [123] s then (rblock f d s).bind fun b=>some (.mk 3 [] b.1 noTy [] 0 t.pos,b.2)
  else if rtyped 0 s then
   let ty:=rtyp s
   let n:=rname ty.2
   if (rtake [91] n.2).1 then
    let l:=rlength (rtake [91] n.2).2
    some (.mk 2 [] [] ⟨ty.1.kind,ty.1.ptr,l.1⟩ n.1.1 0 t.pos,rmust [59] l.2)
   else
    let s1:=(rtake [91] n.2).2
    if (rtake [61] s1).1 then (rexpr f (d + 1) (rtake [61] s1).2).bind fun e=>some (.mk 2 [e.1] [] ty.1 n.1.1 0 t.pos,rmust [59] e.2)
    else some (.mk 2 [] [] ty.1 n.1.1 0 t.pos,rmust [59] (rtake [61] s1).2)
  else if (rtake bIf s).1 then
   (rparen f (d + 1) (rtake bIf s).2).bind fun e=>(rstmt f (d + 1) e.2).bind fun b=>
    if (rtake bElse b.2).1 then (rstmt f (d + 1) (rtake bElse b.2).2).bind fun c=>some (.mk 4 e.1 [b.1,c.1] noTy [] 0 t.pos,c.2)
    else some (.mk 4 e.1 [b.1] noTy [] 0 t.pos,(rtake bElse b.2).2)
  else if (rtake bWhile s).1 then (rparen f (d + 1) (rtake bWhile s).2).bind fun e=>(rstmt f (d + 1) e.2).bind fun b=>some (.mk 5 e.1 [b.1] noTy [] 0 t.pos,b.2)
  else if (rtake bSwitch s).1 then (rparen f (d + 1) (rtake bSwitch s).2).bind fun e=>(rstmt f (d + 1) e.2).bind fun b=>some (.mk 8 e.1 [b.1] noTy [] 0 t.pos,b.2)
  else if (rtake bDo s).1 then (rstmt f (d + 1) (rtake bDo s).2).bind fun b=>(rparen f (d + 1) (rmust bWhile b.2)).bind fun e=>some (.mk 6 e.1 [b.1] noTy [] 0 t.pos,rmust [59] e.2)
  else if (rtake bFor s).1 then
   (rmaybe f (d + 1) [59] (rmust [40] (rtake bFor s).2)).bind fun a=>(rmaybe f (d + 1) [59] a.2).bind fun b=>(rmaybe f (d + 1) [41] b.2).bind fun c=>
    (rstmt f (d + 1) c.2).bind fun x=>some (.mk 7 [a.1,b.1,c.1] [x.1] noTy [] 0 t.pos,x.2)
  else if (rtake bCase s).1 then
   let v:=rvalue (rtake bCase s).2
   some (.mk 9 [] [] noTy [] v.1 t.pos,rmust [58] v.2)
  else if (rtake bDefault s).1 then some (.mk 10 [] [] noTy [] 0 t.pos,rmust [58] (rtake bDefault s).2)
  else if (rtake bBreak s).1 then some (.mk 11 [] [] noTy [] 0 t.pos,rmust [59] (rtake bBreak s).2)
  else if (rtake bContinue s).1 then some (.mk 12 [] [] noTy [] 0 t.pos,rmust [59] (rtake bContinue s).2)
  else if (rtake bReturn s).1 then
   let s1:=(rtake bReturn s).2
   if (rtake [59] s1).1 then some (.mk 13 [] [] noTy [] 0 t.pos,(rtake [59] s1).2)
   else (rexpr f (d + 1) (rtake [59] s1).2).bind fun e=>some (.mk 13 [e.1] [] noTy [] 0 t.pos,rmust [59] e.2)
  else if (rtake bGoto s).1 then
   let n:=rname (rtake bGoto s).2
   some (.mk 14 [] [] noTy n.1.1 0 t.pos,rmust [59] n.2)
  else if t.kind == 1 && ((s.ts.getD 1 noTokT).kind == 3 && (s.ts.getD 1 noTokT).text == [58]) then some (.mk 15 [] [] noTy t.text 0 t.pos,rnext (rnext s))
  else (rexpr f (d + 1) s).bind fun e=>some (.mk 1 [e.1] [] noTy [] 0 t.pos,rmust [59] e.2)
end
def rinit (f:Nat) (len:Int) (s:RS):Option (List Int × RS):=
 if (rtake [61] s).1 then
  if len == 0 then some ([(rvalue (rtake [61] s).2).1],(rvalue (rtake [61] s).2).2)
  else (rvals f len [] (rmust [123] (rtake [61] s).2)).bind fun v=>some (v.1,rmust [125] v.2)
 else some ([],(rtake [61] s).2)
def ritem (f:Nat) (u:Un) (s:RS):Option (Un × RS):=
 let t:=rtyp s
 let n:=rname t.2
 if !rok n.2 then some (u,n.2)
 else if ris [40] n.2 then
  if u.funcs.length=8 then some (u,rfailAt 2 n.1.2 n.2)
  else (rparams f (rnext n.2)).bind fun p=>
   let s1:=if rok p.2 && !ris [123] p.2 then rfail 4 p.2 else p.2
   if rok s1 then (rblock f 1 s1).bind fun b=>some (⟨u.globals,u.funcs ++ [⟨n.1.1,t.1,p.1,b.1,[],n.1.2⟩]⟩,b.2)
   else some (⟨u.globals,u.funcs ++ [⟨n.1.1,t.1,p.1,[],[],n.1.2⟩]⟩,s1)
 else if u.globals.length=16 then some (u,rfailAt 2 n.1.2 n.2)
 else
  let l:=if (rtake [91] n.2).1 then rlength (rtake [91] n.2).2 else (0,(rtake [91] n.2).2)
  (rinit f l.1 l.2).bind fun v=>some (⟨u.globals ++ [⟨n.1.1,⟨t.1.kind,t.1.ptr,l.1⟩,v.1,n.1.2⟩],u.funcs⟩,rmust [59] v.2)
def rloop (g:Nat):Nat→Un→RS→Option (Un × RS)
 | 0,_,_=>none
 | f + 1,u,s=>if rok s && (hdT s.ts).kind != 0 then (ritem g u s).bind fun r=>rloop g f r.1 r.2 else some (u,s)
def Wf:List Tok→Prop
 | []=>False
 | [t]=>t.kind=0
 | t :: l=>t.kind ≠ 0∧Wf l
end Go.Proofs.YtdmacgoeikjdbaaGreatDoor
namespace Go.Proofs.YtdmacgoeikjdbaaGreatDoor
open Go.RowKit
def RdQ (w:World) (g:Nat) (gv fv:Value) (s:RS):Prop:=0<s.ts.length∧(s.ts.length≤2001∧Wf s.ts)∧∃ A c,BlkIs w g 49 #[.slice A s.ts.length c,gv,fv,.int .i64 s.err,.int .i64 s.pos]∧Rep w (fun k=>k<g) (.lst 4 (s.ts.map encTok)) [.slice A s.ts.length c]
section
variable {w w':World} {g:Nat} {gv fv:Value} {s:RS}
theorem RdQ.lt (h:RdQ w g gv fv s):g<w.heap.size:=by obtain ⟨_,_,A,c,h,_⟩:=h;exact h.lt
theorem RdQ.far (h:RdQ w g gv fv s) {p:Addr} (hp:g<p.block) (u:Value):RdQ (w.setCell p u) g gv fv s:=by
 obtain ⟨h1,h2,A,c,h3,h4⟩:=h
 exact ⟨h1,h2,A,c,h3.far (by omega) u,Rep.keep (fun _ h _=>h) (fun k hk _=>heap_setCell_other _ _ _ _ (by omega)) _ _ h4⟩
theorem RdQ.below (h:RdQ w g gv fv s) (hb:Below w.heap.size w w'):RdQ w' g gv fv s:=by
 obtain ⟨h1,h2,A,c,h3,h4⟩:=h
 exact ⟨h1,h2,A,c,h3.below hb h3.lt,h4.below hb⟩
theorem RdQ.tok (h:RdQ w g gv fv s) (k:Nat) (hk:k<s.ts.length):∃ A c q off,w.cell? ⟨g,0,none⟩=some (.slice A s.ts.length c)∧A=some ⟨q,off,none⟩∧q<w.heap.size∧q ≠ g∧s.ts.length≤c ∧
  w.cell? ⟨q,off + 4 * k,none⟩=some (.int .i64 (s.ts[k]).kind)∧w.cell? ⟨q,off + 4 * k + 1,none⟩=some (strV8 (s.ts[k]).text)∧w.cell? ⟨q,off + 4 * k + 2,none⟩=some (.int .i64 (s.ts[k]).n)∧w.cell? ⟨q,off + 4 * k + 3,none⟩=some (.int .i64 (s.ts[k]).pos):=by
 obtain ⟨h1,h2,A,c,h3,h4⟩:=h
 obtain ⟨A',c',e,hc,_⟩:=h4.len
 rw [List.length_map] at hc
 injection e with e1 _ e3
 subst e1 e3
 obtain ⟨q,off,a,hA,hq,hl,hz,hr,hcell⟩:=h4.at_ k (by rw [List.length_map];exact hk)
 rw [List.getElem_map] at hr
 rw [rep_tok] at hr
 subst hr
 have e:∀ j,off + (k * 4 + j)=off + 4 * k + j:=fun j=>by omega
 refine ⟨A,c,q,off,h3.cell 0,hA,hl,by omega,hc,?_,?_,?_,?_⟩
 ·have:=hcell 0 (by omega);rw [e] at this;exact this
 ·have:=hcell 1 (by omega);rw [e] at this;exact this
 ·have:=hcell 2 (by omega);rw [e] at this;exact this
 ·have:=hcell 3 (by omega);rw [e] at this;exact this
end
theorem hdT_get {s:RS} (h:0<s.ts.length):hdT s.ts=s.ts[0]:=by
 obtain ⟨ts,e,p⟩:=s
 cases ts with
 | nil=>cases h
 | cons t l=>rfl
theorem retb {x y:Bool} (h:x=y):Ending.returned (.bool x)=.returned (.bool y):=by rw [h]
def TellQ (v:Value) (w:World) (e:Ending) (w':World):Prop:=e=.returned v∧Below w.heap.size w w'
def DoQ (v:Value) (g:Nat) (gv fv:Value) (s':RS) (w:World) (e:Ending) (w':World):Prop:=e=.returned v∧KeepM g w w'∧RdQ w' g gv fv s'
theorem rok_any (g:Nat) (gv fv:Value) (s:RS) (w:World) (hr:RdQ w g gv fv s):Calls Tryz.prog 40 #[.pointer (some ⟨g,0,none⟩)] w (fun e w'=>e=.returned (.bool (rok s))∧w=w'):=by
 obtain ⟨_,_,A,c,hb,_⟩:=hr
 have c3:w.cell? ⟨g,3,none⟩=some (.int .i64 s.err):=hb.cell 3
 have hl:=hb.lt
 clear hb
 unfold rok
 obtain ⟨x,hx⟩:∃ x,s.err=x:=⟨_,rfl⟩
 rw [hx] at c3 ⊢
 clear hx
 go_enter Tryz.func40,Tryz.ntmps40
 go_wp2_with fail
 go_ret
 exact ⟨rfl,rfl⟩
theorem ris_any (g:Nat) (gv fv:Value) (s:RS) (x:List UInt8) (w:World) (hr:RdQ w g gv fv s):Calls Tryz.prog 41 #[.pointer (some ⟨g,0,none⟩),.string ⟨x.toArray⟩] w (TellQ (.bool (ris x s)) w):=by
 obtain ⟨A,c,q,off,c0,rfl,hq,hqg,hc,t0,t1,t2,t3⟩:=hr.tok 0 hr.1
 have hl:=hr.lt
 have hn:=hr.1
 have hn2:=hr.2.1.1
 unfold ris isT TellQ
 rw [hdT_get hr.1]
 obtain ⟨t,ht⟩:∃ t,s.ts[0]'hr.1=t:=⟨_,rfl⟩
 rw [ht] at t0 t1 t2 t3 ⊢
 clear ht hr
 obtain ⟨n,hnn⟩:∃ n,s.ts.length=n:=⟨_,rfl⟩
 rw [hnn] at c0 hn hn2 hc
 clear hnn
 obtain ⟨k,tx,m,p⟩:=t
 unfold strV8 at t1
 simp only at t0 t1 t2 t3 ⊢
 simp only [Nat.mul_zero,Nat.add_zero] at t0 t1 t2 t3
 go_enter Tryz.func41,Tryz.ntmps41
 go_wp2_with fail
 all_goals
  go_ret
  refine ⟨?_,below_alloc _ _⟩
  first | rfl | (refine retb ?_;simp_all;done) | (refine retb ?_;grind)
theorem RdQ.fault {w:World} {g:Nat} {gv fv:Value} {s:RS} (h:RdQ w g gv fv s) (e p:Int):RdQ ((w.setCell ⟨g,3,none⟩ (.int .i64 e)).setCell ⟨g,4,none⟩ (.int .i64 p)) g gv fv ⟨s.ts,e,p⟩:=by
 obtain ⟨h1,h2,A,c,h3,h4⟩:=h
 refine ⟨h1,h2,A,c,?_,?_⟩
 ·exact (h3.put 3 _).put 4 _
 ·exact Rep.keep (fun _ h _=>h) (fun k hk _=>(heap_setCell_other _ _ _ _ (by simp;omega)).trans (heap_setCell_other _ _ _ _ (by simp;omega))) _ _ h4
theorem rfailAt_any (g:Nat) (gv fv:Value) (s:RS) (e p:Int) (w:World) (hr:RdQ w g gv fv s):Calls Tryz.prog 42 #[.pointer (some ⟨g,0,none⟩),.int .i64 e,.int .i64 p] w (DoQ (.tuple #[]) g gv fv (rfailAt e p s) w):=by
 have HR:=Lib.hid hr
 obtain ⟨_,_,A,c,hb,_⟩:=hr
 have c3:w.cell? ⟨g,3,none⟩=some (.int .i64 s.err):=hb.cell 3
 have c4:w.cell? ⟨g,4,none⟩=some (.int .i64 s.pos):=hb.cell 4
 have f3:=hb.frozen 3
 have f4:=hb.frozen 4
 have hl:=hb.lt
 clear hb
 unfold rfailAt rok
 by_cases h0:s.err=0
 ·have hR:Hid ((if (s.err == 0)=true then (⟨s.ts,e,p⟩:RS) else s)=⟨s.ts,e,p⟩):=Lib.hid (by rw [if_pos (by simpa using h0)])
  rw [hR.out]
  rw [h0] at c3
  clear h0
  go_enter Tryz.func42,Tryz.ntmps42
  go_wp2_with fail
  first | go_end0 | refine bodyPost_ret (results_none rfl _ _ _) rfl ?_
  refine ⟨rfl,?_,?_⟩
  ·exact ((KeepM.refl _ _).own 3 _).own 4 _
  ·exact HR.out.fault e p
 ·have hR:Hid ((if (s.err == 0)=true then (⟨s.ts,e,p⟩:RS) else s)=s):=Lib.hid (by rw [if_neg (by simpa using h0)])
  rw [hR.out]
  obtain ⟨x,hx⟩:∃ x,Hid (s.err=x):=⟨_,Lib.hid rfl⟩
  rw [hx.out] at c3 h0
  go_enter Tryz.func42,Tryz.ntmps42
  go_wp2_with fail
  first | go_end0 | refine bodyPost_ret (results_none rfl _ _ _) rfl ?_
  exact ⟨rfl,KeepM.refl _ _,HR.out⟩
theorem rfail_any (g:Nat) (gv fv:Value) (s:RS) (e:Int) (w:World) (hr:RdQ w g gv fv s):Calls Tryz.prog 45 #[.pointer (some ⟨g,0,none⟩),.int .i64 e] w (DoQ (.tuple #[]) g gv fv (rfail e s) w):=by
 have hf:=fun p W hq=>rfailAt_any g gv fv s e p W hq
 obtain ⟨A,c,q,off,c0,rfl,hq,hqg,hc,t0,t1,t2,t3⟩:=hr.tok 0 hr.1
 have hl:=hr.lt
 have hn:=hr.1
 have hn2:=hr.2.1.1
 unfold rfail
 rw [hdT_get hr.1]
 have HR:=Lib.hid hr
 obtain ⟨t,ht⟩:∃ t,s.ts[0]'hr.1=t:=⟨_,rfl⟩
 rw [ht] at t0 t1 t2 t3 ⊢
 clear ht hr
 obtain ⟨n,hnn⟩:∃ n,Hid (s.ts.length=n):=⟨_,Lib.hid rfl⟩
 rw [hnn.out] at c0 hn hn2 hc
 simp only [Nat.mul_zero,Nat.add_zero] at t0 t1 t2 t3
 go_enter Tryz.func45,Tryz.ntmps45
 go_wp2_with fail
 refine (hf _ _ HR.out).mono ?_
 rintro e w1 ⟨rfl,k1,r1⟩
 go_wp2_with fail
 first | go_end0 | refine bodyPost_ret (results_none rfl _ _ _) rfl ?_
 exact ⟨rfl,k1,r1⟩
end Go.Proofs.YtdmacgoeikjdbaaGreatDoor
namespace Go.Proofs.YtdmacgoeikjdbaaGreatDoor
open Go.RowKit
theorem rep_tail {w:World} {ok:Nat→Prop} {z:Nat} {d:D} {ds:List D} {q off n c:Nat} (h:Rep w ok (.lst z (d :: ds)) [.slice (some ⟨q,off,none⟩) n c]):Rep w ok (.lst z ds) [.slice (some ⟨q,off + z,none⟩) (n - 1) (c - 1)]:=by
 unfold Rep at h ⊢
 obtain ⟨A,c',he,hc,hm,hr⟩:=h
 injection he with he _
 injection he with e1 e2 e3
 subst e1 e3
 obtain ⟨g,off',cur,t,fr,hA,hok,hg,hrow⟩:=hr (by simp)
 injection hA with hA
 injection hA with e4 e5
 subst e4 e5
 simp only [List.length_cons] at e2 hc
 refine ⟨some ⟨q,off + z,none⟩,c - 1,by rw [e2];simp,by omega,by omega,fun _=>⟨q,off + z,cur,t,fr,rfl,hok,hg,?_⟩⟩
 unfold RepRow at hrow
 obtain ⟨a,b,e,hl,_,h2⟩:=hrow
 rw [← List.drop_drop,e,List.drop_left' hl]
 exact h2
theorem RdQ.next {w:World} {g:Nat} {gv fv:Value} {s:RS} {q off n c:Nat} (h:RdQ w g gv fv s) (hn:1<s.ts.length) (h0:w.cell? ⟨g,0,none⟩=some (.slice (some ⟨q,off,none⟩) n c)):RdQ (w.setCell ⟨g,0,none⟩ (.slice (some ⟨q,off + 4,none⟩) (n - 1) (c - 1))) g gv fv (rnext s):=by
 obtain ⟨h1,h2,A,c',h3,h4⟩:=h
 have e0:=h3.cell 0
 rw [h0] at e0
 simp at e0
 obtain ⟨rfl,rfl,rfl⟩:=e0
 unfold rnext
 rw [if_pos hn]
 obtain ⟨ts,er,ps⟩:=s
 cases ts with
 | nil=>cases h1
 | cons t l=>
  refine ⟨by simpa using hn,⟨by have:=h2.1;simp at this ⊢;omega,by cases l with
   | nil=>simp at hn
   | cons u l=>exact h2.2.2⟩,some ⟨q,off + 4,none⟩,c - 1,?_,?_⟩
  ·exact h3.put 0 _
  ·have h5:=rep_tail h4
   exact Rep.keep (fun _ h _=>h) (fun k hk _=>heap_setCell_other _ _ _ _ (by simp;omega)) _ _ h5
theorem rnext_any (g:Nat) (gv fv:Value) (s:RS) (w:World) (hr:RdQ w g gv fv s):Calls Tryz.prog 43 #[.pointer (some ⟨g,0,none⟩)] w (DoQ (hdT s.ts).val g gv fv (rnext s) w):=by
 obtain ⟨A,c,q,off,c0,rfl,hq,hqg,hc,t0,t1,t2,t3⟩:=hr.tok 0 hr.1
 have hl:=hr.lt
 have hn:=hr.1
 have hn2:=hr.2.1.1
 have f0:w.frozen? ⟨g,0,none⟩=false:=by obtain ⟨_,_,_,_,h,_⟩:=hr;exact h.frozen 0
 rw [hdT_get hr.1]
 have HR:=Lib.hid hr
 have HN:=fun h=>Lib.hid (hr.next h c0)
 obtain ⟨t,ht⟩:∃ t,s.ts[0]'hr.1=t:=⟨_,rfl⟩
 rw [ht] at t0 t1 t2 t3 ⊢
 clear ht hr
 obtain ⟨n,hnn⟩:∃ n,Hid (s.ts.length=n):=⟨_,Lib.hid rfl⟩
 rw [hnn.out] at c0 hn hn2 hc HN
 simp only [Nat.mul_zero,Nat.add_zero] at t0 t1 t2 t3
 obtain ⟨k,tx,m,p⟩:=t
 unfold strV8 at t1
 simp only at t0 t1 t2 t3
 by_cases h1:1<n
 ·have HN:=HN h1
  go_enter Tryz.func43,Tryz.ntmps43
  go_wp2_with fail
  refine bodyPost_ret (v:=tokVal k tx m p) (by simp [results,Tryz.results43,go_sem,tokVal]) rfl ?_
  refine ⟨rfl,?_,?_⟩
  ·exact (((KeepM.refl _ _).own 0 _).alloc _).alloc _
  ·exact (HN.out.below (below_alloc _ _)).below (below_alloc _ _)
 ·have e:rnext s=s:=by unfold rnext;rw [if_neg (by rw [hnn.out];exact h1)]
  rw [e]
  clear HN
  have h1':n=1:=by omega
  subst h1'
  go_enter Tryz.func43,Tryz.ntmps43
  go_wp2_with fail
  refine bodyPost_ret (v:=tokVal k tx m p) (by simp [results,Tryz.results43,go_sem,tokVal]) rfl ?_
  exact ⟨rfl,((KeepM.refl _ _).alloc _).alloc _,(HR.out.below (below_alloc _ _)).below (below_alloc _ _)⟩
theorem rtake_any (g:Nat) (gv fv:Value) (s:RS) (x:List UInt8) (w:World) (hr:RdQ w g gv fv s):Calls Tryz.prog 47 #[.pointer (some ⟨g,0,none⟩),.string ⟨x.toArray⟩] w (DoQ (.bool (rtake x s).1) g gv fv (rtake x s).2 w):=by
 have ho:=rok_any g gv fv s w hr
 have hi:=ris_any g gv fv s x w hr
 unfold rtake
 have HR:=Lib.hid hr
 cases hok:rok s
 ·rw [hok] at ho
  go_enter Tryz.func47,Tryz.ntmps47
  go_wp2_with fail
  refine ho.mono ?_
  rintro e w1 ⟨rfl,rfl⟩
  go_wp2_with fail
  go_ret
  exact ⟨rfl,KeepM.refl _ _,HR.out⟩
 ·rw [hok] at ho
  cases his:ris x s
  ·rw [his] at hi
   go_enter Tryz.func47,Tryz.ntmps47
   go_wp2_with fail
   refine ho.mono ?_
   rintro e w1 ⟨rfl,rfl⟩
   go_wp2_with fail
   refine hi.mono ?_
   rintro e w1 ⟨rfl,hb⟩
   go_wp2_with fail
   go_ret
   exact ⟨rfl,KeepM.of hb,HR.out.below hb⟩
  ·rw [his] at hi
   go_enter Tryz.func47,Tryz.ntmps47
   go_wp2_with fail
   refine ho.mono ?_
   rintro e w1 ⟨rfl,rfl⟩
   go_wp2_with fail
   refine hi.mono ?_
   rintro e w1 ⟨rfl,hb⟩
   go_wp2_with fail
   refine (rnext_any g gv fv s w1 (HR.out.below hb)).mono ?_
   rintro e w2 ⟨rfl,k2,r2⟩
   go_wp2_with fail
   go_ret
   exact ⟨rfl,(KeepM.of hb).trans k2,r2⟩
end Go.Proofs.YtdmacgoeikjdbaaGreatDoor

/- The reference's parser: it answers what both parsers make of the token -/
import Derived.Test.YtdmacgoeikjdbaaGreatDoorL16
set_option linter.unusedSimpArgs false
set_option linter.unusedVariables false
namespace Go.Proofs.YtdmacgoeikjdbaaGreatDoor
open Go.RowKit Sx
end Go.Proofs.YtdmacgoeikjdbaaGreatDoor
namespace Go.Proofs.YtdmacgoeikjdbaaGreatDoor
open Go.RowKit
def mfailAt (e p:Int) (s:RS):RS:=if rok s then ⟨[s.ts.getLastD noTokT],e,p⟩ else s
def mfail (e:Int) (s:RS):RS:=mfailAt e (hdT s.ts).pos s
def mnext (s:RS):RS:=if (hdT s.ts).kind != 0 then ⟨s.ts.tail,s.err,s.pos⟩ else s
def meat (x:List UInt8) (s:RS):Bool × RS:=if ris x s then (true,mnext s) else (false,s)
def mwant (x:List UInt8) (s:RS):RS:=if (meat x s).1 then (meat x s).2 else mfail 4 (meat x s).2
def mkind (k:Int) (s:RS):Tok × RS:=if (hdT s.ts).kind != k then (noTokT,mfail 4 s) else (hdT s.ts,mnext s)
def mdeep (d:Int) (s:RS):RS:=if 20<d then mfail 2 s else s
def intWords:List (List UInt8):=[bChar,bShort,bInt,bLong]
def mtyped (s:RS):Bool:=ris bVoid s || (ris bUnsigned s || ((hdT s.ts).kind == 4 && decide ((hdT s.ts).text ∈ intWords)))
def mkindL (u:Int):List (List UInt8)→Int→RS→Int × RS
 | [],_,s=>(0,mfail 4 s)
 | w :: l,k,s=>if (meat w s).1 then (k + u,(meat w s).2) else mkindL u l (k + 2) (meat w s).2
def mbase (s:RS):Int × RS:=
 if (meat bVoid s).1 then (0,(meat bVoid s).2)
 else mkindL (if (meat bUnsigned (meat bVoid s).2).1 then 1 else 0) intWords 1 (meat bUnsigned (meat bVoid s).2).2
def mstars:Nat→Int→RS→Int × RS
 | 0,n,s=>(n,s)
 | f + 1,n,s=>if ris [42] s then (if n == 3 then (n,mfail 2 s) else mstars f (n + 1) (mnext s)) else (n,s)
def mtyp (s:RS):Ty × RS:=(⟨(mbase s).1,(mstars 5 0 (mbase s).2).1,0⟩,(mstars 5 0 (mbase s).2).2)
def mnumber (s:RS):Int × RS:=
 (if (meat [45] s).1 then wrap64 (-(mkind 2 (meat [45] s).2).1.n) else (mkind 2 (meat [45] s).2).1.n,(mkind 2 (meat [45] s).2).2)
def mbetween (n p:Int) (s:RS):RS:=if rok s && (decide (n<1) || decide (64<n)) then mfailAt 10 p s else s
def mlength (s:RS):Int × RS:=
 if (meat [91] s).1 then ((mkind 2 (meat [91] s).2).1.n,mwant [93] (mbetween (mkind 2 (meat [91] s).2).1.n (hdT (meat [91] s).2.ts).pos (mkind 2 (meat [91] s).2).2))
 else (0,(meat [91] s).2)
def mfull (k len:Int) (s:RS):RS:=if k == len && (ris [45] s || (hdT s.ts).kind == 2) then mfail 10 s else s
def mvals:Nat→Int→List Int→RS→Option (List Int × RS)
 | 0,_,_,_=>none
 | f + 1,len,acc,s=>
  if rok s then
   let v:=mnumber (mfull acc.length len s)
   if (meat [44] v.2).1 then mvals f len (acc ++ [v.1]) (meat [44] v.2).2 else some (acc ++ [v.1],mwant [125] (meat [44] v.2).2)
  else some (acc,s)
def mvalues (f:Nat) (len:Int) (s:RS):Option (List Int × RS):=mvals f len [] (mwant [123] s)
def mnothing (s:RS):Bool × RS:=
 meat [41] (if ris bVoid s && ((s.ts.getD 1 noTokT).kind == 3 && (s.ts.getD 1 noTokT).text == [41]) then mnext s else s)
def mparams1:Nat→List De→RS→Option (List De × RS)
 | 0,_,_=>none
 | f + 1,acc,s=>
  if rok s then
   if acc.length=4 then some (acc,mfail 2 s)
   else
    let t:=mtyp s
    let n:=mkind 1 t.2
    let d:De:=⟨n.1.text,t.1,[],n.1.pos⟩
    if (meat [44] n.2).1 then mparams1 f (acc ++ [d]) (meat [44] n.2).2 else some (acc ++ [d],mwant [41] (meat [44] n.2).2)
  else some (acc,s)
def mparams (f:Nat) (s:RS):Option (List De × RS):=
 let s1:=mnothing (mwant [40] s)
 if s1.1 then some ([],s1.2) else mparams1 f [] s1.2
def massL:List (List UInt8 × Int):=assignL ++ [([60,61,61],23),([62,61,61],25),([61,61,61],26),([33,61,61],27)]
def massigns (x:List UInt8):Int:=lookS x massL
def misAss (x:List UInt8):Bool:=x == [61] || massigns x != 0
mutual
def mexpr:Nat→Int→RS→Option (Ex × RS)
 | 0,_,_=>none
 | f + 1,d,s=>(mcond f d (mdeep d s)).bind fun a=>
  if (hdT a.2.ts).kind != 3 || !misAss (hdT a.2.ts).text then some a
  else (mexpr f (d + 1) (mnext a.2)).bind fun b=>some (.mk 34 noTy [] (massigns (hdT a.2.ts).text) [a.1,b.1] (hdT a.2.ts).pos,b.2)
def mcond:Nat→Int→RS→Option (Ex × RS)
 | 0,_,_=>none
 | f + 1,d,s=>(mbinary f d 0 s).bind fun a=>
  if (meat [63] a.2).1 then
   (mexpr f (d + 1) (meat [63] a.2).2).bind fun b=>(mcond f (d + 1) (mdeep (d + 1) (mwant [58] b.2))).bind fun c=>some (.mk 33 noTy [] 0 [a.1,b.1,c.1] (hdT a.2.ts).pos,c.2)
  else some (a.1,(meat [63] a.2).2)
def mbinary:Nat→Int→Nat→RS→Option (Ex × RS)
 | 0,_,_,_=>none
 | f + 1,d,n,s=>if 9<n then munary f d s else (mbinary f d (n + 1) s).bind fun a=>mbinloop f d n a.1 a.2
def mbinloop:Nat→Int→Nat→Ex→RS→Option (Ex × RS)
 | 0,_,_,_,_=>none
 | f + 1,d,n,a,s=>
  if (hdT s.ts).kind == 3 && rlevel n (hdT s.ts).text != 0 then
   (mbinary f d (n + 1) (mnext s)).bind fun b=>mbinloop f d n (.mk (rlevel n (hdT s.ts).text) noTy [] 0 [a,b.1] (hdT s.ts).pos) b.2
  else some (a,s)
def moperand:Nat→Int→RS→Option (List Ex × RS)
 | 0,_,_=>none
 | f + 1,d,s=>(munary f d (mdeep d s)).bind fun x=>some ([x.1],x.2)
def munary:Nat→Int→RS→Option (Ex × RS)
 | 0,_,_=>none
 | f + 1,d,s=>
  if lookS (hdT s.ts).text prefixes != 0 && (hdT s.ts).kind == 3 then
   (moperand f (d + 1) (mnext s)).bind fun k=>some (.mk (lookS (hdT s.ts).text prefixes) noTy [] 0 k.1 (hdT s.ts).pos,k.2)
  else if (meat bSizeof s).1 then
   let s1:=mwant [40] (meat bSizeof s).2
   some (.mk 10 (mtyp s1).1 [] 0 [] (hdT s.ts).pos,mwant [41] (mtyp s1).2)
  else
   let s1:=(meat bSizeof s).2
   if ris [40] s1 then mcast f d s1
   else (mprimary f d s1).bind fun a=>mpostloop f d a.1 a.2
def mcast:Nat→Int→RS→Option (Ex × RS)
 | 0,_,_=>none
 | f + 1,d,s=>
  let s1:=mnext s
  if mtyped s1 then (moperand f (d + 1) (mwant [41] (mtyp s1).2)).bind fun k=>some (.mk 9 (mtyp s1).1 [] 0 k.1 (hdT s.ts).pos,k.2)
  else (mexpr f (d + 1) s1).bind fun e=>mpostloop f d e.1 (mwant [41] e.2)
def mpostloop:Nat→Int→Ex→RS→Option (Ex × RS)
 | 0,_,_,_=>none
 | f + 1,d,a,s=>
  if (meat [91] s).1 then (mexpr f (d + 1) (meat [91] s).2).bind fun i=>mpostloop f d (.mk 3 noTy [] 0 [a,i.1] (hdT s.ts).pos) (mwant [93] i.2)
  else if (meat [43,43] (meat [91] s).2).1 then mpostloop f d (.mk 13 noTy [] 0 [a] (hdT s.ts).pos) (meat [43,43] (meat [91] s).2).2
  else if (meat [45,45] (meat [43,43] (meat [91] s).2).2).1 then mpostloop f d (.mk 14 noTy [] 0 [a] (hdT s.ts).pos) (meat [45,45] (meat [43,43] (meat [91] s).2).2).2
  else some (a,(meat [45,45] (meat [43,43] (meat [91] s).2).2).2)
def mprimary:Nat→Int→RS→Option (Ex × RS)
 | 0,_,_=>none
 | f + 1,d,s=>
  if (hdT s.ts).kind == 2 then some (.mk 1 noTy [] (hdT s.ts).n [] (hdT s.ts).pos,mnext s)
  else if (hdT s.ts).kind == 1 then
   let s1:=mnext s
   if (meat [40] s1).1 then (margs f (d + 1) (meat [40] s1).2).bind fun k=>some (.mk 35 noTy (hdT s.ts).text 0 k.1 (hdT s.ts).pos,k.2)
   else some (.mk 2 noTy (hdT s.ts).text 0 [] (hdT s.ts).pos,(meat [40] s1).2)
  else some (noEx,mfail 4 s)
def margs:Nat→Int→RS→Option (List Ex × RS)
 | 0,_,_=>none
 | f + 1,d,s=>if (meat [41] s).1 then some ([],(meat [41] s).2) else margloop f d [] (meat [41] s).2
def margloop:Nat→Int→List Ex→RS→Option (List Ex × RS)
 | 0,_,_,_=>none
 | f + 1,d,acc,s=>
  if rok s then
   if acc.length=4 then some (acc,mfail 2 s)
   else (mexpr f d s).bind fun x=>if (meat [44] x.2).1 then margloop f d (acc ++ [x.1]) (meat [44] x.2).2 else some (acc ++ [x.1],mwant [41] (meat [44] x.2).2)
  else some (acc,s)
end
def mparen (f:Nat) (d:Int) (s:RS):Option (Ex × RS):=(mexpr f d (mwant [40] s)).bind fun e=>some (e.1,mwant [41] e.2)
def mperhaps (f:Nat) (d:Int) (x:List UInt8) (s:RS):Option (Ex × RS):=if ris x s then some (noEx,s) else mexpr f d s
def mdecl (f:Nat) (d p:Int) (s:RS):Option (St × RS):=
 let ty:=mtyp s
 let n:=mkind 1 ty.2
 let l:=mlength n.2
 if l.1 == 0 then
  if (meat [61] l.2).1 then (mexpr f (d + 1) (meat [61] l.2).2).bind fun e=>some (.mk 2 [e.1] [] ⟨ty.1.kind,ty.1.ptr,l.1⟩ n.1.text 0 p,mwant [59] e.2)
  else some (.mk 2 [] [] ⟨ty.1.kind,ty.1.ptr,l.1⟩ n.1.text 0 p,mwant [59] (meat [61] l.2).2)
 else some (.mk 2 [] [] ⟨ty.1.kind,ty.1.ptr,l.1⟩ n.1.text 0 p,mwant [59] l.2)
def mshort (f:Nat) (d p:Int) (s:RS):Option (St × RS):=
 if (meat bCase s).1 then
  let v:=mnumber (meat bCase s).2
  some (.mk 9 [] [] noTy [] v.1 p,mwant [58] v.2)
 else
 let s:=(meat bCase s).2
 if (meat bDefault s).1 then some (.mk 10 [] [] noTy [] 0 p,mwant [58] (meat bDefault s).2)
 else
 let s:=(meat bDefault s).2
 if (meat bBreak s).1 then some (.mk 11 [] [] noTy [] 0 p,mwant [59] (meat bBreak s).2)
 else
 let s:=(meat bBreak s).2
 if (meat bContinue s).1 then some (.mk 12 [] [] noTy [] 0 p,mwant [59] (meat bContinue s).2)
 else
 let s:=(meat bContinue s).2
 if (meat bGoto s).1 then
  let n:=mkind 1 (meat bGoto s).2
  some (.mk 14 [] [] noTy n.1.text 0 p,mwant [59] n.2)
 else
 let s:=(meat bGoto s).2
 if (meat bReturn s).1 then
  let s1:=(meat bReturn s).2
  if ris [59] s1 then some (.mk 13 [] [] noTy [] 0 p,mwant [59] s1)
  else (mexpr f (d + 1) s1).bind fun e=>some (.mk 13 [e.1] [] noTy [] 0 p,mwant [59] e.2)
 else
 let s:=(meat bReturn s).2
 (mexpr f (d + 1) s).bind fun e=>some (.mk 1 [e.1] [] noTy [] 0 p,mwant [59] e.2)
mutual
def mblock:Nat→Int→RS→Option (List St × RS)
 | 0,_,_=>none
 | f + 1,d,s=>mblkloop f d [] (mwant [123] s)
def mblkloop:Nat→Int→List St→RS→Option (List St × RS)
 | 0,_,_,_=>none
 | f + 1,d,acc,s=>
  if rok s && !ris [125] s then
   if (hdT s.ts).kind == 0 then some (acc,mwant [125] (mfail 4 s))
   else (mstmt f (d + 1) s).bind fun x=>mblkloop f d (acc ++ [x.1]) x.2
  else some (acc,mwant [125] s)
def mfor:Nat→Int→Int→RS→Option (St × RS)
 | 0,_,_,_=>none
 | f + 1,d,p,s=>(mperhaps f (d + 1) [59] (mwant [40] s)).bind fun a=>(mperhaps f (d + 1) [59] (mwant [59] a.2)).bind fun b=>(mperhaps f (d + 1) [41] (mwant [59] b.2)).bind fun c=>
  (mstmt f (d + 1) (mwant [41] c.2)).bind fun x=>some (.mk 7 [a.1,b.1,c.1] [x.1] noTy [] 0 p,x.2)
def mword:Nat→Int→Int→RS→Option (St × RS)
 | 0,_,_,_=>none
 | f + 1,d,p,s=>
  if (meat bIf s).1 then
   (mparen f (d + 1) (meat bIf s).2).bind fun e=>(mstmt f (d + 1) e.2).bind fun b=>
    if (meat bElse b.2).1 then (mstmt f (d + 1) (meat bElse b.2).2).bind fun c=>some (.mk 4 [e.1] [b.1,c.1] noTy [] 0 p,c.2)
    else some (.mk 4 [e.1] [b.1] noTy [] 0 p,(meat bElse b.2).2)
  else
  let s:=(meat bIf s).2
  if (meat bWhile s).1 then (mparen f (d + 1) (meat bWhile s).2).bind fun e=>(mstmt f (d + 1) e.2).bind fun b=>some (.mk 5 [e.1] [b.1] noTy [] 0 p,b.2)
  else
  let s:=(meat bWhile s).2
  if (meat bSwitch s).1 then (mparen f (d + 1) (meat bSwitch s).2).bind fun e=>(mstmt f (d + 1) e.2).bind fun b=>some (.mk 8 [e.1] [b.1] noTy [] 0 p,b.2)
  else
  let s:=(meat bSwitch s).2
  if (meat bDo s).1 then (mstmt f (d + 1) (meat bDo s).2).bind fun b=>(mparen f (d + 1) (mwant bWhile b.2)).bind fun e=>some (.mk 6 [e.1] [b.1] noTy [] 0 p,mwant [59] e.2)
  else
  let s:=(meat bDo s).2
  if (meat bFor s).1 then mfor f d p (meat bFor s).2
  else mshort f d p (meat bFor s).2
def mstmt:Nat→Int→RS→Option (St × RS)
 | 0,_,_=>none
 | f + 1,d,s0=>
  let s:=mdeep d s0
  let t:=hdT s.ts
  if t.kind == 4 then
   if mtyped s then mdecl f d t.pos s else mword f d t.pos s
  else if (meat [59] s).1 then some (.mk 16 [] [] noTy [] 0 t.pos,(meat [59] s).2)
  else
   let s1:=(meat [59] s).2
   if ris [123] s1 then (mblock f d s1).bind fun b=>some (.mk 3 [] b.1 noTy [] 0 t.pos,b.2)
   else if t.kind == 1 && ((s1.ts.getD 1 noTokT).kind == 3 && (s1.ts.getD 1 noTokT).text == [58]) then some (.mk 15 [] [] noTy t.text 0 t.pos,mnext (mnext s1))
   else (mexpr f (d + 1) s1).bind fun e=>some (.mk 1 [e.1] [] noTy [] 0 t.pos,mwant [59] e.2)
end
def mglobal (f:Nat) (u:Un) (nm:List UInt8) (t:Ty) (p:Int) (s:RS):Option (Un × RS):=
 if u.globals.length=16 then some (u,mfailAt 2 p s)
 else
  let l:=mlength s
  if (meat [61] l.2).1 then
   if 0<l.1 then (mvalues f l.1 (meat [61] l.2).2).bind fun v=>some (⟨u.globals ++ [⟨nm,⟨t.kind,t.ptr,l.1⟩,v.1,p⟩],u.funcs⟩,mwant [59] v.2)
   else
    let v:=mnumber (meat [61] l.2).2
    some (⟨u.globals ++ [⟨nm,⟨t.kind,t.ptr,l.1⟩,[v.1],p⟩],u.funcs⟩,mwant [59] v.2)
  else some (⟨u.globals ++ [⟨nm,⟨t.kind,t.ptr,l.1⟩,[],p⟩],u.funcs⟩,mwant [59] (meat [61] l.2).2)
def mitem (f:Nat) (u:Un) (s:RS):Option (Un × RS):=
 let t:=mtyp s
 let n:=mkind 1 t.2
 if !rok n.2 then some (u,n.2)
 else if !ris [40] n.2 then mglobal f u n.1.text t.1 n.1.pos n.2
 else if u.funcs.length=8 then some (u,mfailAt 2 n.1.pos n.2)
 else (mparams f n.2).bind fun p=>(mblock f 1 p.2).bind fun b=>some (⟨u.globals,u.funcs ++ [⟨n.1.text,t.1,p.1,b.1,[],n.1.pos⟩]⟩,b.2)
def mloop (g:Nat):Nat→Un→RS→Option (Un × RS)
 | 0,_,_=>none
 | f + 1,u,s=>if rok s && (hdT s.ts).kind != 0 then (mitem g u s).bind fun r=>mloop g f r.1 r.2 else some (u,s)
end Go.Proofs.YtdmacgoeikjdbaaGreatDoor

/- Symbolic execution of code, on values that nobody looks into: cells, v -/
import Derived.Test.YtdmacgoeikjdbaaGreatDoorL02
import Derived.Test.YtdmacgoeikjdbaaGreatDoorL03
set_option linter.unusedSimpArgs false
set_option linter.unusedVariables false
namespace Go.Proofs.YtdmacgoeikjdbaaGreatDoor.Sx
open Go.RowKit
inductive L where
 | v (n:Nat)
 | c (x:Value)
 | p (b off:Nat)
 | s (b n:Nat)
inductive T2 where
 | one (l:L)
 | agg (ls:List L)
inductive SV where
 | el (x:T2)
 | tup (l:List T2)
structure Env (S:Type) where
 vals:List Value
 blks:List Nat
 dats:List D
 st:S
def L.den (vals:List Value) (blks:List Nat):L→Option Value
 | .v n=>vals[n]?
 | .c x=>some x
 | .p b off=>match blks[b]? with
  | some g=>some (.pointer (some ⟨g,off,none⟩))
  | none=>none
 | .s b n=>match blks[b]? with
  | some g=>some (.slice (some ⟨g,0,none⟩) n n)
  | none=>none
def dens (vals:List Value) (blks:List Nat):List L→Option (List Value)
 | []=>some []
 | l :: ls=>match l.den vals blks,dens vals blks ls with
  | some v,some vs=>some (v :: vs)
  | _,_=>none
def T2.den (vals:List Value) (blks:List Nat):T2→Option Value
 | .one l=>l.den vals blks
 | .agg ls=>match dens vals blks ls with
  | some vs=>some (.agg vs.toArray)
  | none=>none
def dens2 (vals:List Value) (blks:List Nat):List T2→Option (List Value)
 | []=>some []
 | l :: ls=>match l.den vals blks,dens2 vals blks ls with
  | some v,some vs=>some (v :: vs)
  | _,_=>none
def SV.den (vals:List Value) (blks:List Nat):SV→Option Value
 | .el x=>x.den vals blks
 | .tup l=>match dens2 vals blks l with
  | some vs=>some (.tuple vs.toArray)
  | none=>none
structure Bk where
 b:Nat
 t:TypeId
 cs:List L
structure Fc where
 l:Nat
 d:Nat
 own:Option (TypeId × Nat)
structure St where
 tm:List (Nat × SV)
 mem:List Bk
 fs:List Fc
 nv:Nat
 nb:Nat
 nd:Nat
 nt:Nat
 kn:List (Nat × Bool)
 io:List Nat
structure Shp where
 nv:Nat
 ret:SV
 fs:List (Nat × Nat)
 da:List (Nat × Nat)
 pt:List (Nat × TypeId × Nat)
 fo:List (Nat × TypeId)
 ao:List (Nat × TypeId)
inductive CD where
 | leaf
 | dat (k:Nat)
 | nil (z:Nat)
inductive PV where
 | bin (op:BinOp)
 | un (op:UnOp)
 | len
 | nilc
 | fa (off:Nat)
 | ia (z:Nat)
inductive Nd where
 | new
 | pv (p:PV) (xs:List L)
 | ld (x:L) (n:Nat)
 | call (k:Nat) (args:List T2) (ds:List (L × CD))
 | bs (z n:Nat) (row:Bool) (cs:List (List (L × CD)))
 | app (z:Nat) (s:CD) (x:Nat)
inductive Tree where
 | nd (n:Nd) (k:Tree)
 | ite (n:Nat) (a b:Tree)
 | both (a b:Tree)
 | ret (cs:List L) (ds:List (L × CD))
 | again (id:Nat) (vs:List L) (ds:List (L × CD))
 | loop (id nb:Nat) (vs:List L) (ds:List (L × CD)) (body:Tree)
inductive SR where
 | val (v:SV) (st:St)
 | nd (n:Nd) (v:SV) (st:St)
structure Cfg where
 cs:List (FuncId × Shp)
 nz:List (Nat × Nat)
 tmpl:List (Nat × St)
 self:Shp
 ms:List Nat
 tails:List (Nat × St)
def L.shift (n:Nat):L→L
 | .v k=>.v (n + k)
 | l=>l
def T2.shift (n:Nat):T2→T2
 | .one l=>.one (l.shift n)
 | .agg ls=>.agg (ls.map (L.shift n))
def SV.shift (n:Nat):SV→SV
 | .el x=>.el (x.shift n)
 | .tup l=>.tup (l.map (T2.shift n))
def szT (P:Program) (t:TypeId):Option Nat:=match P.info? t with
 | some i=>some i.size
 | none=>none
def rowT (P:Program) (t:TypeId):Option (Option Nat):=match P.underlying t with
 | some (.struct _)=>match szT P t with
  | some k=>some (some k)
  | none=>none
 | some (.array _ _)=>match szT P t with
  | some k=>some (some k)
  | none=>none
 | some _=>some none
 | none=>none
def zeroL (P:Program) (t:TypeId):Option (List L):=match P.info? t with
 | some i=>match i.zero with
  | some v=>some (v.cells.toList.map L.c)
  | none=>none
 | none=>none
def elemT (P:Program) (t:TypeId):Option TypeId:=match P.underlying t with
 | some (.slice e)=>some e
 | _=>none
def fieldT (P:Program) (t:TypeId) (i:Nat):Option Field:=match P.underlying t with
 | some (.struct fs)=>fs.toList[i]?
 | _=>none
def fieldsT (P:Program) (fs:List Field):Option (List (Nat × Nat)):=fs.mapM fun f=>(P.info? f.type).map fun i=>(f.offset,i.size)
def callable (P:Program) (f:FuncId):Bool:=match P.funcs[f]? with
 | some fn=>!(fn.name == "runtime.NumGoroutine") && fn.body.isSome
 | none=>false
def lookN {α:Type} (k:Nat):List (Nat × α)→Option α
 | []=>none
 | (i,x) :: l=>match Nat.beq i k with
  | true=>some x
  | false=>lookN k l
def okL:L→Bool
 | .c x=>x.oneCell'
 | _=>true
def evalO (st:St):Operand→Option SV
 | .tmp t=>lookN t st.tm
 | .const (.agg cs)=>some (.el (.agg (cs.toList.map L.c)))
 | .const v=>some (.el (.one (.c v)))
 | .func f=>some (.el (.one (.c (.func (.func f) #[] #[]))))
 | .global _=>none
def eval2 (st:St) (x:Operand):Option T2:=match evalO st x with
 | some (.el t)=>some t
 | _=>none
def T2.cells:T2→List L
 | .one l=>[l]
 | .agg ls=>ls
def evalC (st:St) (x:Operand):Option (List L):=match eval2 st x with
 | some t=>match t.cells.all okL with
  | true=>some t.cells
  | false=>none
 | none=>none
def eval1 (st:St) (x:Operand):Option L:=match evalC st x with
 | some [l]=>match eval2 st x with
  | some (.one l)=>some l
  | _=>none
 | _=>none
def evals2 (st:St):List Operand→Option (List T2)
 | []=>some []
 | x :: l=>match evalC st x,eval2 st x,evals2 st l with
  | some _,some t,some r=>some (t :: r)
  | _,_,_=>none
def memOf (b:Nat):List Bk→Option Bk
 | []=>none
 | B :: l=>match Nat.beq B.b b with
  | true=>some B
  | false=>memOf b l
def putL (off:Nat) (vs cs:List L):List L:=cs.take off ++ vs ++ cs.drop (off + vs.length)
def putB (b off:Nat) (vs:List L):List Bk→Option (List Bk)
 | []=>some []
 | B :: l=>match putB b off vs l with
  | some m=>match Nat.beq B.b b with
   | true=>match Nat.ble (off + vs.length) B.cs.length with
    | true=>some ({ B with cs:=putL off vs B.cs } :: m)
    | false=>none
   | false=>some (B :: m)
  | none=>none
def factOf (n:Nat):List Fc→Option Fc
 | []=>none
 | f :: l=>match Nat.beq f.l n with
  | true=>some f
  | false=>factOf n l
def cdOf (st:St) (nz:List (Nat × Nat)) (k:Nat):L→CD
 | .v n=>match factOf n st.fs with
  | some f=>.dat f.d
  | none=>.leaf
 | .c (.slice none 0 0)=>match lookN k nz with
  | some z=>.nil z
  | none=>.leaf
 | _=>.leaf
def cdsOf (st:St) (nz:List (Nat × Nat)) (k:Nat):List L→List (L × CD)
 | []=>[]
 | l :: ls=>(l,cdOf st nz k l) :: cdsOf st nz (k + 1) ls
def shut (ls:List (L × CD)) (fs:List Fc):List Fc:=fs.map fun f=>match ls.any (fun x=>match x.1 with
 | .v n=>Nat.beq n f.l
 | _=>false) with
 | true=>{ f with own:=none }
 | false=>f
def newB (st:St) (t:TypeId) (ls:List L):Option SR:=match ls.all okL with
 | true=>some (.nd .new (.el (.one (.p st.nb 0))) { st with mem:=⟨st.nb,t,ls⟩ :: st.mem,nb:=st.nb + 1 })
 | false=>none
def vsFrom (n:Nat):Nat→List L
 | 0=>[]
 | k + 1=>.v n :: vsFrom (n + 1) k
def loadS (P:Program) (st:St) (t:TypeId) (x:Operand):Option SR:=match eval2 st x,rowT P t with
 | some (.one (.p b off)),some none=>match memOf b st.mem with
  | some B=>match B.cs[off]? with
   | some l=>some (.val (.el (.one l)) st)
   | none=>none
  | none=>none
 | some (.one (.p b off)),some (some k)=>match memOf b st.mem with
  | some B=>match Nat.ble (off + k) B.cs.length with
   | true=>some (.val (.el (.agg ((B.cs.drop off).take k))) st)
   | false=>none
  | none=>none
 | some (.one (.v n)),some none=>some (.nd (.ld (.v n) 1) (.el (.one (.v st.nv))) { st with nv:=st.nv + 1 })
 | some (.one (.v n)),some (some k)=>some (.nd (.ld (.v n) k) (.el (.agg (vsFrom st.nv k))) { st with nv:=st.nv + k })
 | _,_=>none
def storeS (P:Program) (st:St) (t:TypeId) (x y:Operand):Option SR:=match eval2 st x,evalC st y,szT P t with
 | some (.one (.p b off)),some ls,some z=>match Nat.beq ls.length z with
  | true=>match memOf b st.mem,putB b off ls st.mem with
   | some _,some m=>some (.val (.el (.one (.c undef))) { st with mem:=m })
   | _,_=>none
  | false=>none
 | _,_,_=>none
def pvS (st:St) (p:PV) (xs:List L):Option SR:=some (.nd (.pv p xs) (.el (.one (.v st.nv))) { st with nv:=st.nv + 1 })
def spliceL (off:Nat) (vs cs:List L):List L:=cs.take off ++ vs ++ cs.drop (off + vs.length)
def fillS (st:St) (pl:List (Nat × Nat)):List (Nat × Operand)→List L→Option (List L)
 | [],cs=>some cs
 | (i,x) :: l,cs=>match pl[i]?,evalC st x with
  | some (off,z),some vs=>match Nat.beq vs.length z && Nat.ble (off + z) cs.length with
   | true=>fillS st pl l (spliceL off vs cs)
   | false=>none
  | _,_=>none
def inOrder (k:Nat):List (Nat × Operand)→Bool
 | []=>true
 | (i,_) :: l=>Nat.beq i k && inOrder (k + 1) l
def rowsS (st:St) (nz:List (Nat × Nat)) (base z:Nat):List (Nat × Operand)→Option (List (List (L × CD)))
 | []=>some []
 | (_,x) :: l=>match evalC st x,rowsS st nz base z l with
  | some vs,some r=>match Nat.beq vs.length z with
   | true=>some (cdsOf st nz base vs :: r)
   | false=>none
  | _,_=>none
def T2s.cells:List T2→List L
 | []=>[]
 | t :: l=>t.cells ++ T2s.cells l
def ownT (ow:List (Nat × TypeId)) (j z:Nat):Option (TypeId × Nat):=match lookN j ow with
 | some e=>some (e,z)
 | none=>none
def newFs (nv nd:Nat) (ow:List (Nat × TypeId)) (j:Nat):List (Nat × Nat)→List Fc
 | []=>[]
 | (i,z) :: l=>⟨nv + i,nd + j,ownT ow j z⟩ :: newFs nv nd ow (j + 1) l
def idxF (f:FuncId) (k:Nat):List (FuncId × Shp)→Option (Nat × Shp)
 | []=>none
 | (g,sh) :: l=>match Nat.beq g f with
  | true=>some (k,sh)
  | false=>idxF f (k + 1) l
def ownOf (st:St) (e:TypeId) (z:Nat):L→Option (CD × Option Nat)
 | .c (.slice none 0 0)=>some (.nil z,none)
 | .v n=>match factOf n st.fs with
  | some ⟨_,d,some (e',z')⟩=>match Nat.beq e e' && Nat.beq z z' with
   | true=>some (.dat d,some n)
   | false=>none
  | _=>none
 | _=>none
def dropF (n:Nat) (fs:List Fc):List Fc:=fs.filter fun f=>!Nat.beq f.l n
def dropFs:List Nat→List Fc→List Fc
 | [],fs=>fs
 | n :: l,fs=>dropF n (dropFs l fs)
def daOw (st:St) (cells:List L) (ow:List (Nat × TypeId)) (j:Nat):List (Nat × Nat)→Option (List (L × CD) × List (L × CD) × List Nat)
 | []=>some ([],[],[])
 | (i,z) :: r=>match cells[i]?,daOw st cells ow (j + 1) r with
  | some l,some (m,mn,os)=>match lookN j ow with
   | none=>some ((l,cdOf st [(0,z)] 0 l) :: m,(l,cdOf st [(0,z)] 0 l) :: mn,os)
   | some e=>match ownOf st e z l with
    | some (cd,some n)=>some ((l,cd) :: m,mn,n :: os)
    | some (cd,none)=>some ((l,cd) :: m,mn,os)
    | none=>none
  | _,_=>none
def nodupB:List Nat→Bool
 | []=>true
 | a :: l=>l.all (fun b=>!Nat.beq a b) && nodupB l
def onceO (mn:List (L × CD)) (os:List Nat):Bool:=nodupB os && mn.all fun x=>match x.1 with
 | .v n=>os.all fun o=>!Nat.beq o n
 | _=>true
def ptrB (st:St) (ts:List T2):List (Nat × TypeId × Nat)→Option (List (Nat × Bk))
 | []=>some []
 | (i,t,n) :: r=>match ts[i]?,ptrB st ts r with
  | some (.one (.p b 0)),some m=>match memOf b st.mem with
   | some B=>match Nat.beq B.t t && Nat.beq B.cs.length n with
    | true=>some ((i,B) :: m)
    | false=>none
   | none=>none
  | _,_=>none
def setP:List (Nat × Bk)→List T2→List T2
 | [],ts=>ts
 | (i,B) :: r,ts=>(setP r ts).set i (.agg B.cs)
def ioN:List (Nat × TypeId × Nat)→Nat
 | []=>0
 | (_,_,n) :: r=>n + ioN r
def putIo (base:Nat):List (Nat × Bk)→List Bk→List Bk
 | [],m=>m
 | (_,B) :: r,m=>(putIo (base + B.cs.length) r m).map fun A=>match Nat.beq A.b B.b with
  | true=>{ A with cs:=vsFrom base B.cs.length }
  | false=>A
def callF (P:Program) (cf:Cfg) (st:St) (f:FuncId) (xs:List Operand):Option SR:=match idxF f 0 cf.cs,evals2 st xs,callable P f with
 | some (k,sh),some ts,true=>match ptrB st ts sh.pt with
  | some bs=>match daOw st (T2s.cells (setP bs ts)) sh.ao 0 sh.da with
   | some (ds,mn,os)=>match onceO mn os && nodupB (bs.map fun x=>x.2.b) && Nat.ble (ioN sh.pt) sh.nv with
    | true=>some (.nd (.call k (setP bs ts) ds) (sh.ret.shift st.nv) { st with nv:=st.nv + sh.nv,nd:=st.nd + sh.fs.length,fs:=newFs st.nv st.nd sh.fo 0 sh.fs ++ dropFs os (shut mn st.fs),mem:=putIo (st.nv + (sh.nv - ioN sh.pt)) bs st.mem })
    | false=>none
   | none=>none
  | none=>none
 | _,_,_=>none
def smallE (P:Program) (e:TypeId) (z:Nat):Bool:=match P.info? e with
 | some i=>match i.zero with
  | some v=>Nat.ble i.bytes 1000 && Nat.beq i.size z && Nat.beq v.cells.size z && Nat.blt 0 z
  | none=>false
 | none=>false
def appS (P:Program) (st:St) (t u:TypeId) (s x:Operand):Option SR:=match elemT P t,Nat.beq t u,eval1 st s,eval1 st x with
 | some e,true,some s,some (.v m)=>match szT P e with
  | some z=>match ownOf st e z s,ownOf st e z (.v m),smallE P e z with
   | some (cd,n),some (.dat d,_),true=>match n with
    | some n=>match Nat.beq n m with
     | false=>some (.nd (.app z cd d) (.el (.one (.v st.nv))) { st with nv:=st.nv + 1,nd:=st.nd + 1,fs:=⟨st.nv,st.nd,some (e,z)⟩ :: dropF m (dropF n st.fs) })
     | true=>none
    | none=>some (.nd (.app z cd d) (.el (.one (.v st.nv))) { st with nv:=st.nv + 1,nd:=st.nd + 1,fs:=⟨st.nv,st.nd,some (e,z)⟩ :: dropF m st.fs })
   | _,_,_=>none
  | none=>none
 | _,_,_,_=>none
def callS (P:Program) (cf:Cfg) (st:St) (c:Call):Option SR:=match c.callee with
 | .value (.func f)=>callF P cf st f c.args.toList
 | .builtin .len=>match c.args.toList,c.argTypes.toList with
  | [x],[t]=>match elemT P t,eval1 st x with
   | some _,some l=>match l with
    | .s _ n=>some (.val (.el (.one (.c (.int .i64 n)))) st)
    | l=>pvS st .len [l]
   | _,_=>none
  | _,_=>none
 | .builtin .append=>match c.args.toList,c.argTypes.toList with
  | [s,x],[t,u]=>appS P st t u s x
  | _,_=>none
 | _=>none
def buildS (P:Program) (st:St) (t:TypeId) (ps:List (Nat × Operand)):Option SR:=match P.underlying t,zeroL P t with
 | some (.struct fs),some z=>match fieldsT P fs.toList with
  | some pl=>match z.all okL,fillS st pl ps z with
   | true,some cs=>some (.val (.el (.agg cs)) st)
   | _,_=>none
  | none=>none
 | _,_=>none
def memN (k:Nat):List Nat→Bool
 | []=>false
 | a :: l=>match Nat.beq k a with
  | true=>true
  | false=>memN k l
def cellsS (st:St) (z:Nat):List (Nat × Operand)→Option (List L)
 | []=>some []
 | (_,x) :: l=>match evalC st x,cellsS st z l with
  | some vs,some r=>match Nat.beq vs.length z with
   | true=>some (vs ++ r)
   | false=>none
  | _,_=>none
def buildSliceS (P:Program) (cf:Cfg) (st:St) (t:TypeId) (n:Nat) (ps:List (Nat × Operand)):Option SR:=match elemT P t with
 | some e=>match szT P e,rowT P e,zeroL P e with
  | some z,some r,some _=>match memN t cf.ms with
   | true=>match cellsS st z ps,Nat.beq n ps.length && inOrder 0 ps && Nat.ble (n * z) 1000000 && Nat.blt 0 (n * z) with
    | some ls,true=>some (.nd .new (.el (.one (.s st.nb n))) { st with mem:=⟨st.nb,e,ls⟩ :: st.mem,nb:=st.nb + 1 })
    | _,_=>none
   | false=>match rowsS st cf.nz (100 * e) z ps,Nat.beq n ps.length && inOrder 0 ps && Nat.ble (n * z) 1000000 && Nat.blt 0 (n * z) with
    | some rows,true=>some (.nd (.bs z n r.isSome rows) (.el (.one (.v st.nv))) { st with nv:=st.nv + 1,nd:=st.nd + 1,fs:=⟨st.nv,st.nd,some (e,z)⟩ :: shut rows.flatten st.fs })
    | _,_=>none
  | _,_,_=>none
 | none=>none
def boolOf (st:St):L→Option Bool
 | .c (.bool b)=>some b
 | .v n=>lookN n st.kn
 | _=>none
def binV (op:BinOp) (x y:Value):Option Value:=match x,y with
 | .int .i64 a,.int .i64 b=>match op with
  | .add=>some (.int .i64 (IntKind.i64.wrap (a + b)))
  | .sub=>some (.int .i64 (IntKind.i64.wrap (a - b)))
  | .eql=>some (.bool (a == b))
  | .neq=>some (.bool (!(a == b)))
  | .lss=>some (.bool (decide (a<b)))
  | .leq=>some (.bool (decide (a≤b)))
  | .gtr=>some (.bool (decide (b<a)))
  | .geq=>some (.bool (decide (b≤a)))
  | _=>none
 | .string s,.string t=>match op with
  | .eql=>some (.bool (s.data.toList == t.data.toList))
  | .neq=>some (.bool (!(s.data.toList == t.data.toList)))
  | _=>none
 | _,_=>none
def unV (op:UnOp) (x:Value):Option Value:=match op,x with
 | .not,.bool b=>some (.bool (!b))
 | .neg,.int .i64 n=>some (.int .i64 (IntKind.i64.wrap (-n)))
 | _,_=>none
def foldB (op:BinOp):L→L→Option Value
 | .c x,.c y=>binV op x y
 | _,_=>none
def foldU (op:UnOp):L→Option Value
 | .c x=>unV op x
 | _=>none
def isNilI:L→Bool
 | .c .nilIface=>true
 | _=>false
def stepO (P:Program) (cf:Cfg) (st:St) (o:Op):Option SR:=match o with
 | .move x | .assign x=>match evalO st x with
  | some v=>some (.val v st)
  | none=>none
 | .alloc t=>match zeroL P t with
  | some ls=>newB st t ls
  | none=>none
 | .box t x=>match evalC st x with
  | some ls=>newB st t ls
  | none=>none
 | .load t x=>loadS P st t x
 | .store t x y=>storeS P st t x y
 | .build t ps=>buildS P st t ps.toList
 | .buildSlice t n ps=>buildSliceS P cf st t n ps.toList
 | .nilCheck x=>match eval1 st x with
  | some (.p b off)=>some (.val (.el (.one (.p b off))) st)
  | some (.v n)=>pvS st .nilc [.v n]
  | _=>none
 | .binOp op _ x y _=>match eval1 st x,eval1 st y with
  | some l,some m=>match isNilI l || isNilI m with
   | false=>match foldB op l m with
    | some r=>some (.val (.el (.one (.c r))) st)
    | none=>pvS st (.bin op) [l,m]
   | true=>none
  | _,_=>none
 | .unOp op _ x=>match eval1 st x with
  | some l=>match foldU op l with
   | some r=>some (.val (.el (.one (.c r))) st)
   | none=>pvS st (.un op) [l]
  | none=>none
 | .fieldAddr t x i=>match fieldT P t i,eval1 st x with
  | some f,some l=>match szT P f.type with
   | some (_ + 1)=>match l with
    | .p b off=>some (.val (.el (.one (.p b (off + f.offset)))) st)
    | .v n=>pvS st (.fa f.offset) [.v n]
    | _=>none
   | _=>none
  | _,_=>none
 | .field t x i=>match fieldT P t i,eval2 st x with
  | some f,some (.agg ls)=>match rowT P f.type with
   | some none=>match ls[f.offset]? with
    | some l=>some (.val (.el (.one l)) st)
    | none=>none
   | some (some k)=>match Nat.ble (f.offset + k) ls.length with
    | true=>some (.val (.el (.agg ((ls.drop f.offset).take k))) st)
    | false=>none
   | none=>none
  | _,_=>none
 | .extract x i=>match evalO st x with
  | some (.tup l)=>match l[i]? with
   | some t=>some (.val (.el t) st)
   | none=>none
  | _=>none
 | .indexAddr t x i=>match elemT P t,eval1 st x,eval1 st i with
  | some e,some (.v n),some j=>match szT P e with
   | some z=>pvS st (.ia z) [.v n,j]
   | none=>none
  | some e,some (.s b n),some (.c (.int .i64 (.ofNat i)))=>match szT P e,Nat.blt i n with
   | some z,true=>some (.val (.el (.one (.p b (i * z)))) st)
   | _,_=>none
  | _,_,_=>none
 | .pick c x y=>match eval1 st c with
  | some l=>match boolOf st l with
   | some true=>match evalO st x with
    | some v=>some (.val v st)
    | none=>none
   | some false=>match evalO st y with
    | some v=>some (.val v st)
    | none=>none
   | none=>none
  | none=>none
 | .call c=>callS P cf st c
 | _=>none
def putT (d:Option Nat) (v:SV) (st:St):St:=match d with
 | some d=>{ st with tm:=(d,v) :: st.tm }
 | none=>st
def okD (st:St):Option Nat→Bool
 | some d=>Nat.blt d st.nt
 | none=>true
abbrev Kn:=St→Option Tree
inductive GR where
 | yes
 | no
 | ask (n:Nat) (b:Bool)
 | bad
def gdS (ops:Array Oper) (st:St) (o:Oper):GR:=match o.guard with
 | none=>.yes
 | some (j,b)=>match ops[j]? with
  | some q=>match q.dst with
   | some d=>match lookN d st.tm with
    | some (.el (.one (.c (.bool c))))=>match b == c with
     | true=>.yes
     | false=>.no
    | some (.el (.one (.c _)))=>.no
    | some (.el (.one (.v n)))=>match lookN n st.kn with
     | some c=>match b == c with
      | true=>.yes
      | false=>.no
     | none=>.ask n b
    | _=>.bad
   | none=>.bad
  | none=>.bad
def oper (P:Program) (cf:Cfg) (o:Oper) (st:St) (k:Kn):Option Tree:=match okD st o.dst,stepO P cf st o.op with
 | true,some (.val v st')=>k (putT o.dst v st')
 | true,some (.nd n v st')=>match k (putT o.dst v st') with
  | some T=>some (.nd n T)
  | none=>none
 | _,_=>none
def skipO (o:Oper) (st:St) (k:Kn):Option Tree:=match okD st o.dst with
 | true=>k (putT o.dst (.el (.one (.c undef))) st)
 | false=>none
def knows (n:Nat) (b:Bool) (st:St):St:={ st with kn:=(n,b) :: st.kn }
def iteS (n:Nat) (st:St) (k:Bool→Kn):Option Tree:=match k true (knows n true st),k false (knows n false st) with
 | some x,some y=>some (.ite n x y)
 | _,_=>none
def operG (P:Program) (cf:Cfg) (ops:Array Oper) (o:Oper) (st:St) (k:Kn):Option Tree:=match gdS ops st o with
 | .yes=>oper P cf o st k
 | .no=>skipO o st k
 | .ask n b=>iteS n st fun c st'=>match b == c with
  | true=>oper P cf o st' k
  | false=>skipO o st' k
 | .bad=>none
def opsS (P:Program) (cf:Cfg) (ops:Array Oper):List Oper→St→Kn→Option Tree
 | [],st,k=>k st
 | o :: l,st,k=>operG P cf ops o st fun st'=>opsS P cf ops l st' k
def pureS:SR→Bool
 | .val _ _=>true
 | .nd (.pv _ _) _ _=>true
 | _=>false
def notSt:Op→Bool
 | .store _ _ _=>false
 | _=>true
def pureO (cf:Cfg):Op→Bool
 | .store _ _ _=>false
 | .call c=>match c.callee with
  | .value (.func f)=>match idxF f 0 cf.cs with
   | some (_,sh)=>match sh.pt with
    | []=>true
    | _=>false
   | none=>true
  | _=>true
 | _=>true
def funcCall:Op→Bool
 | .call c=>match c.callee with
  | .value (.func _)=>true
  | _=>false
 | _=>false
def pureR (rk:Bool):SR→Bool
 | .val _ _=>true
 | .nd (.pv _ _) _ _=>true
 | .nd (.ld _ _) _ _=>rk
 | _=>false
def firstP (P:Program) (cf:Cfg) (ops:Array Oper) (listed:Array Bool) (st0 st:St) (last:Nat) (rk:Bool):List Nat→Option (Nat × Oper × Bool)
 | []=>none
 | i :: l=>match ops[i]? with
  | some o=>match Nat.beq i last,pureO cf o.op && takeOkK .any ops listed last i with
   | false,true=>match gdS ops { st with mem:=st0.mem } o with
    | .yes=>match stepO P cf { st with mem:=st0.mem } o.op with
     | some r=>match pureR rk r with
      | true=>some (i,o,true)
      | false=>firstP P cf ops listed st0 st last rk l
     | none=>firstP P cf ops listed st0 st last rk l
    | .no=>some (i,o,false)
    | _=>firstP P cf ops listed st0 st last rk l
   | _,_=>firstP P cf ops listed st0 st last rk l
  | none=>firstP P cf ops listed st0 st last rk l
def eqC:Value→Value→Bool
 | .int .i64 a,.int .i64 b=>a == b
 | .bool a,.bool b=>a == b
 | .slice none 0 0,.slice none 0 0=>true
 | .pointer none,.pointer none=>true
 | .tuple ⟨[]⟩,.tuple ⟨[]⟩=>true
 | .string a,.string b=>a.data.toList == b.data.toList
 | _,_=>false
def eqL:L→L→Bool
 | .v a,.v b=>Nat.beq a b
 | .p a b,.p c d=>Nat.beq a c && Nat.beq b d
 | .c a,.c b=>eqC a b
 | _,_=>false
def eqLs2:List L→List L→Bool
 | [],[]=>true
 | a :: l,b :: m=>eqL a b && eqLs2 l m
 | _,_=>false
def eqCD:CD→CD→Bool
 | .leaf,.leaf=>true
 | .dat a,.dat b=>Nat.beq a b
 | .nil a,.nil b=>Nat.beq a b
 | _,_=>false
def eqLCs:List (L × CD)→List (L × CD)→Bool
 | [],[]=>true
 | (a,c) :: l,(b,d) :: m=>eqL a b && eqCD c d && eqLCs l m
 | _,_=>false
def eqRows:List (List (L × CD))→List (List (L × CD))→Bool
 | [],[]=>true
 | a :: l,b :: m=>eqLCs a b && eqRows l m
 | _,_=>false
def eqT2c:T2→T2→Bool
 | .one a,.one b=>eqL a b
 | .agg a,.agg b=>eqLs2 a b
 | _,_=>false
def eqT2cs:List T2→List T2→Bool
 | [],[]=>true
 | a :: l,b :: m=>eqT2c a b && eqT2cs l m
 | _,_=>false
def eqPV:PV→PV→Bool
 | .bin a,.bin b=>a == b
 | .un a,.un b=>a == b
 | .len,.len=>true
 | .nilc,.nilc=>true
 | .fa a,.fa b=>Nat.beq a b
 | .ia a,.ia b=>Nat.beq a b
 | _,_=>false
def eqNd:Nd→Nd→Bool
 | .new,.new=>true
 | .pv p xs,.pv q ys=>eqPV p q && eqLs2 xs ys
 | .ld x n,.ld y m=>eqL x y && Nat.beq n m
 | .call k ts ds,.call k' ts' ds'=>Nat.beq k k' && eqT2cs ts ts' && eqLCs ds ds'
 | .bs z n r cs,.bs z' n' r' cs'=>Nat.beq z z' && Nat.beq n n' && (r == r') && eqRows cs cs'
 | .app z s x,.app z' s' x'=>Nat.beq z z' && eqCD s s' && Nat.beq x x'
 | _,_=>false
def eqTr:Tree→Tree→Bool
 | .nd n k,.nd m l=>eqNd n m && eqTr k l
 | .ite n a b,.ite m c d=>Nat.beq n m && (eqTr a c && eqTr b d)
 | .ret cs ds,.ret cs' ds'=>eqLs2 cs cs' && eqLCs ds ds'
 | .again i cs ds,.again j cs' ds'=>Nat.beq i j && eqLs2 cs cs' && eqLCs ds ds'
 | _,_=>false
def bothT (T U:Tree):Tree:=match eqTr T U with
 | true=>T
 | false=>.both T U
def eachS (cf:Cfg) (ops:Array Oper) (last:Nat) (k:Nat→Oper→Option Tree):List Nat→Option Tree
 | []=>none
 | i :: l=>match ops[i]? with
  | some o=>match Nat.beq i last || pureO cf o.op with
   | true=>match k i o with
    | some T=>match l with
     | []=>some T
     | _=>match eachS cf ops last k l with
      | some U=>some (bothT T U)
      | none=>none
    | none=>none
   | false=>none
  | none=>none
def lastOf (cf:Cfg) (ops:Array Oper) (listed:Array Bool):List Nat→Nat
 | []=>ops.size - 1
 | i :: l=>match ops[i]?,listed[i]? with
  | some o,some false=>match pureO cf o.op with
   | true=>lastOf cf ops listed l
   | false=>i
  | _,_=>lastOf cf ops listed l
def callOf (ops:Array Oper) (listed:Array Bool):List Nat→Nat
 | []=>ops.size - 1
 | i :: l=>match ops[i]?,listed[i]? with
  | some o,some false=>match funcCall o.op with
   | true=>i
   | false=>callOf ops listed l
  | _,_=>callOf ops listed l
def guarded (ops:Array Oper):Bool:=ops.toList.any fun o=>o.guard.isSome
def lastK (cf:Cfg) (ops:Array Oper) (listed:Array Bool):Nat:=match guarded ops with
 | true=>callOf ops listed (List.range ops.size)
 | false=>lastOf cf ops listed (List.range ops.size)
def rkOf (ops:Array Oper) (listed:Array Bool) (last:Nat):Bool:=guarded ops && (List.range ops.size).all fun i=>match ops[i]?,listed[i]? with
 | some o,some false=>Nat.beq i last || !funcCall o.op
 | _,_=>true
def pureN:SR→Bool
 | .val _ _=>true
 | .nd (.pv _ _) _ _=>true
 | _=>false
def firstQ (P:Program) (cf:Cfg) (ops:Array Oper) (listed:Array Bool) (st:St) (last:Nat):List Nat→Option (Nat × Oper)
 | []=>none
 | i :: l=>match ops[i]? with
  | some o=>match pureO cf o.op && takeOkP .any ops listed last i with
   | true=>match gdS ops { st with mem:=[] } o with
    | .yes=>match stepO P cf { st with mem:=[] } o.op with
     | some r=>match pureN r with
      | true=>some (i,o)
      | false=>firstQ P cf ops listed st last l
     | none=>firstQ P cf ops listed st last l
    | _=>firstQ P cf ops listed st last l
   | _=>firstQ P cf ops listed st last l
  | none=>firstQ P cf ops listed st last l
def manyS (ops:Array Oper):Bool:=Nat.ble 2 (ops.toList.filter fun o=>!notSt o.op).length
def quickL (ops:Array Oper):List Nat:=match manyS ops with
 | true=>List.range ops.size
 | false=>[]
def drawS (P:Program) (cf:Cfg) (ops:Array Oper):Nat→Nat→Bool→St→Array Bool→St→Kn→Option Tree
 | 0,_,_,_,listed,st,k=>match Region.ready .any ops listed with
  | []=>k st
  | _=>none
 | f + 1,last,rk,st0,listed,st,k=>match firstP P cf ops listed st0 st last rk (List.range ops.size) with
  | some (i,o,true)=>oper P cf o { st with mem:=st0.mem } fun st'=>drawS P cf ops f last rk st0 (listed.setIfInBounds i true) { st' with mem:=st.mem } k
  | some (i,o,false)=>skipO o st fun st'=>drawS P cf ops f last rk st0 (listed.setIfInBounds i true) st' k
  | none=>match firstQ P cf ops listed st last (quickL ops) with
   | some (i,o)=>oper P cf o { st with mem:=[] } fun st'=>drawS P cf ops f last rk st0 (listed.setIfInBounds i true) { st' with mem:=st.mem } k
   | none=>match Region.ready .any ops listed with
    | []=>k st
    | l=>eachS cf ops last (fun i o=>match rk && funcCall o.op && !Nat.beq i last with
     | true=>none
     | false=>operG P cf ops o st fun st'=>match Nat.beq i last with
      | true=>drawS P cf ops f (lastK cf ops (listed.setIfInBounds i true)) (rkOf ops (listed.setIfInBounds i true) (lastK cf ops (listed.setIfInBounds i true))) st' (listed.setIfInBounds i true) st' k
      | false=>drawS P cf ops f last rk st0 (listed.setIfInBounds i true) st' k) l
def eachT (ops:Array Oper) (k:Nat→Oper→Option Tree):List Nat→Option Tree
 | []=>none
 | i :: l=>match ops[i]? with
  | some o=>match o.guard with
   | none=>match k i o with
    | some T=>match l with
     | []=>some T
     | _=>match eachT ops k l with
      | some U=>some (bothT T U)
      | none=>none
    | none=>none
   | _=>none
  | none=>none
def drawT (P:Program) (cf:Cfg) (ops:Array Oper):Nat→Array Bool→St→Kn→Option Tree
 | 0,listed,st,k=>match Region.ready .any ops listed with
  | []=>k st
  | _=>none
 | f + 1,listed,st,k=>match Region.ready .any ops listed with
  | []=>k st
  | l=>eachT ops (fun i o=>oper P cf o st fun st'=>drawT P cf ops f (listed.setIfInBounds i true) st' k) l
def drawA (P:Program) (cf:Cfg) (ops:Array Oper) (st:St) (k:Kn):Option Tree:=match drawS P cf ops ops.size (lastK cf ops (Array.replicate ops.size false)) (rkOf ops (Array.replicate ops.size false) (lastK cf ops (Array.replicate ops.size false))) st (Array.replicate ops.size false) st k with
 | some T=>some T
 | none=>drawT P cf ops ops.size (Array.replicate ops.size false) st k
structure Sb where
 vs:List (Nat × L)
 ds:List (Nat × (L × CD))
 bs:List (Nat × Nat)
def mtL (s:Sb):L→L→Option Sb
 | .v n,l=>match lookN n s.vs with
  | some l'=>match eqL l' l with
   | true=>some s
   | false=>none
  | none=>some { s with vs:=s.vs ++ [(n,l)] }
 | .p b o,.p b' o'=>match Nat.beq o o',lookN b s.bs with
  | true,some b2=>match Nat.beq b2 b' with
   | true=>some s
   | false=>none
  | true,none=>some { s with bs:=s.bs ++ [(b,b')] }
  | _,_=>none
 | .c x,.c y=>match eqC x y with
  | true=>some s
  | false=>none
 | _,_=>none
def mtLs (s:Sb):List L→List L→Option Sb
 | [],[]=>some s
 | a :: l,b :: m=>match mtL s a b with
  | some s=>mtLs s l m
  | none=>none
 | _,_=>none
def mtT (s:Sb):T2→T2→Option Sb
 | .one a,.one b=>mtL s a b
 | .agg a,.agg b=>mtLs s a b
 | _,_=>none
def mtTm (st:St) (s:Sb):List (Nat × SV)→Option Sb
 | []=>some s
 | (i,.el x) :: l=>match lookN i st.tm with
  | some (.el y)=>match mtT s x y with
   | some s=>mtTm st s l
   | none=>none
  | _=>none
 | (_,.tup _) :: _=>none
def mtMem (st:St) (s:Sb):List Bk→Option Sb
 | []=>some s
 | B :: l=>match lookN B.b s.bs with
  | some b=>match memOf b st.mem with
   | some B'=>match Nat.beq B.t B'.t,mtLs s B.cs B'.cs with
    | true,some s=>mtMem st s l
    | _,_=>none
   | none=>none
  | none=>none
def zOf (f:Fc):Nat:=match f.own with
 | some (_,z)=>z
 | none=>0
def mtFs (st:St) (s:Sb):List Fc→Option Sb
 | []=>some s
 | f :: l=>match lookN f.l s.vs with
  | some (.v n)=>match factOf n st.fs with
   | some g=>match f.own,g.own with
    | none,none=>mtFs st { s with ds:=s.ds ++ [(f.d,(.v n,.dat g.d))] } l
    | some (e,z),some (e',z')=>match Nat.beq e e' && Nat.beq z z' with
     | true=>mtFs st { s with ds:=s.ds ++ [(f.d,(.v n,.dat g.d))] } l
     | false=>none
    | _,_=>none
   | none=>none
  | some (.c (.slice none 0 0))=>mtFs st { s with ds:=s.ds ++ [(f.d,(.c (.slice none 0 0),.nil (zOf f)))] } l
  | _=>none
def shutL (vs:List (Nat × L)):List Fc→List (L × CD)
 | []=>[]
 | f :: l=>match f.own,lookN f.l vs with
  | none,some x=>(x,.leaf) :: shutL vs l
  | _,_=>shutL vs l
def apartF (vs:List (Nat × L)) (fs:List Fc):Bool:=fs.all fun f=>fs.all fun g=>match f.own,g.own with
 | some _,some _=>Nat.beq f.l g.l || (match lookN f.l vs,lookN g.l vs with
  | some (.v a),some (.v b)=>!Nat.beq a b
  | _,_=>true)
 | _,_=>true
def inOrd {α:Type} (k:Nat):List (Nat × α)→Option (List α)
 | []=>some []
 | (i,x) :: l=>match Nat.beq i k,inOrd (k + 1) l with
  | true,some r=>some (x :: r)
  | _,_=>none
def mtIo (bs:List (Nat × Nat)):List Nat→List Nat→Bool
 | [],[]=>true
 | a :: l,b :: m=>(match lookN a bs with
  | some c=>Nat.beq c b
  | none=>false) && mtIo bs l m
 | _,_=>false
def mtOk (st tp:St) (vs:List L) (ds:List (L × CD)) (bs:List Nat):Bool:=
 Nat.beq vs.length tp.nv && (Nat.beq ds.length tp.nd && (Nat.beq bs.length tp.nb && (Nat.beq st.nt tp.nt && (Nat.beq tp.kn.length 0 && (vs.all okL && (nodupB bs && bs.all (fun b=>Nat.blt b st.nb)))))))
def mtSt (st tp:St):Option (List L × List (L × CD) × List Nat):=match mtTm st ⟨[],[],[]⟩ tp.tm with
 | some s=>match mtMem st s tp.mem with
  | some s=>match mtFs { st with fs:=shut (shutL s.vs tp.fs) st.fs } s tp.fs with
   | some s=>match inOrd 0 s.vs,inOrd 0 s.ds,inOrd 0 s.bs with
    | some a,some b,some c=>match mtOk st tp a b c && apartF s.vs tp.fs with
     | true=>match mtIo s.bs tp.io st.io with
      | true=>some (a,b,c)
      | false=>none
     | false=>none
    | _,_,_=>none
   | none=>none
  | none=>none
 | none=>none
def unrollN (f:St→Kn→Option Tree):Nat→St→Option Tree
 | 0,_=>none
 | n + 1,st=>f st (unrollN f n)
def tailN (id:Nat):Nat:=1000000 + id
def tailS (cf:Cfg) (id:Nat) (last:Bool) (st:St):Option (Option Tree):=match last,lookN id cf.tails with
 | true,some tp=>match mtSt st tp with
  | some (vs,ds,_)=>some (some (.again (tailN id) vs ds))
  | none=>some none
 | _,_=>none
def isRet:Code→Bool
 | .ret=>true
 | _=>false
def codeS (P:Program) (cf:Cfg):Code→Option Nat→List Nat→Bool→St→Kn→(Nat→Kn)→Kn→Option Tree
 | .skip,_,_,_,st,kn,_,_=>kn st
 | .region id ops b,_,_,last,st,kn,_,_=>match tailS cf id last st with
  | some r=>r
  | none=>match b with
   | false=>opsS P cf ops ops.toList st kn
   | true=>drawA P cf ops st kn
 | .seq a b,_,op,last,st,kn,ke,kr=>codeS P cf a none op (isRet b) st (fun st'=>codeS P cf b none op last st' kn ke kr) ke kr
 | .cond c a b,_,op,last,st,kn,ke,kr=>match eval1 st c with
  | some l=>match boolOf st l with
   | some true=>codeS P cf a none op last st kn ke kr
   | some false=>codeS P cf b none op last st kn ke kr
   | none=>match l with
    | .v n=>iteS n st fun c st'=>match c with
     | true=>codeS P cf a none op last st' kn ke kr
     | false=>codeS P cf b none op last st' kn ke kr
    | _=>none
  | none=>none
 | .block id body,_,op,last,st,kn,ke,kr=>codeS P cf body (some id) op last st kn (fun j=>match Nat.beq j id with
  | true=>kn
  | false=>ke j) kr
 | .exit id,_,_,_,st,_,ke,_=>ke id st
 | .ret,_,_,_,st,_,_,kr=>kr st
 | .loop body,some id,op,_,st,_,ke,kr=>match lookN id cf.tmpl,memN id op with
  | some tp,false=>match mtSt st tp with
   | some (vs,ds,_)=>match codeS P cf body none (id :: op) false tp (fun st'=>match mtSt st' tp with
     | some (vs',ds',_)=>some (.again id vs' ds')
     | none=>none) ke kr with
    | some T=>some (.loop id tp.nb vs ds T)
    | none=>none
   | none=>none
  | some _,true=>none
  | none,_=>unrollN (fun st' k=>codeS P cf body none op false st' k ke kr) 60 st
 | _,_,_,_,_,_,_,_=>none
def resS (P:Program) (st:St):List ResultVar→Option (List T2)
 | []=>some []
 | .tmp t :: l=>match evalC st (.tmp t),eval2 st (.tmp t),resS P st l with
  | some _,some x,some r=>some (x :: r)
  | _,_,_=>none
 | .cell t ty :: l=>match loadS P st ty (.tmp t),resS P st l with
  | some (.val (.el x) _),some r=>match x.cells.all okL with
   | true=>some (x :: r)
   | false=>none
  | _,_=>none
def patT (n:Nat):T2→T2
 | .one _=>.one (.v n)
 | .agg ls=>.agg (vsFrom n ls.length)
def patTs (n:Nat):List T2→List T2
 | []=>[]
 | t :: l=>patT n t :: patTs (n + t.cells.length) l
def patOf:List T2→SV
 | [t]=>.el (patT 0 t)
 | ts=>.tup (patTs 0 ts)
def eqVs:List L→List L→Bool
 | [],[]=>true
 | .v a :: l,.v b :: m=>Nat.beq a b && eqVs l m
 | _,_=>false
def eqT2:T2→T2→Bool
 | .one (.v a),.one (.v b)=>Nat.beq a b
 | .agg l,.agg m=>eqVs l m
 | _,_=>false
def eqT2s:List T2→List T2→Bool
 | [],[]=>true
 | a :: l,b :: m=>eqT2 a b && eqT2s l m
 | _,_=>false
def eqSV:SV→SV→Bool
 | .el a,.el b=>eqT2 a b
 | .tup a,.tup b=>eqT2s a b
 | _,_=>false
def ioCells (st:St):List Nat→List (Nat × TypeId × Nat)→Option (List L)
 | [],[]=>some []
 | b :: l,(_,t,n) :: r=>match memOf b st.mem,ioCells st l r with
  | some B,some m=>match Nat.beq B.t t && Nat.beq B.cs.length n with
   | true=>some (B.cs ++ m)
   | false=>none
  | _,_=>none
 | _,_=>none
def retS (P:Program) (cf:Cfg) (rs:List ResultVar) (st:St):Option Tree:=match resS P st rs,ioCells st st.io cf.self.pt with
 | some ts,some ic=>match daOw st (T2s.cells ts ++ ic) cf.self.fo 0 cf.self.fs with
  | some (ds,mn,os)=>match eqSV cf.self.ret (patOf ts) && (Nat.beq cf.self.nv (T2s.cells ts ++ ic).length && onceO mn os) with
   | true=>match Nat.ble rs.length 2 with
    | true=>some (.ret (T2s.cells ts ++ ic) ds)
    | false=>none
   | false=>none
  | none=>none
 | _,_=>none
inductive SA where
 | one
 | agg (k:Nat)
 | con (v:Value)
 | ptr (t:TypeId) (k:Nat)
def argT (n i q:Nat):List SA→List (Nat × SV)
 | []=>[]
 | .one :: l=>(i,.el (.one (.v n))) :: argT (n + 1) (i + 1) q l
 | .agg k :: l=>(i,.el (.agg (vsFrom n k))) :: argT (n + k) (i + 1) q l
 | .con v :: l=>(i,.el (.one (.c v))) :: argT (n + 1) (i + 1) q l
 | .ptr _ k :: l=>(i,.el (.one (.p q 0))) :: argT (n + k) (i + 1) (q + 1) l
def argN:List SA→Nat
 | []=>0
 | .one :: l=>argN l + 1
 | .agg k :: l=>argN l + k
 | .con _ :: l=>argN l + 1
 | .ptr _ k :: l=>argN l + k
def argM (n q:Nat):List SA→List Bk
 | []=>[]
 | .one :: l=>argM (n + 1) q l
 | .agg k :: l=>argM (n + k) q l
 | .con _ :: l=>argM (n + 1) q l
 | .ptr t k :: l=>⟨q,t,vsFrom n k⟩ :: argM (n + k) (q + 1) l
def ptOf (i:Nat):List SA→List (Nat × TypeId × Nat)
 | []=>[]
 | .ptr t k :: l=>(i,t,k) :: ptOf (i + 1) l
 | _ :: l=>ptOf (i + 1) l
def ptEq:List (Nat × TypeId × Nat)→List (Nat × TypeId × Nat)→Bool
 | [],[]=>true
 | (i,t,k) :: l,(j,u,m) :: r=>Nat.beq i j && Nat.beq t u && Nat.beq k m && ptEq l r
 | _,_=>false
def st0 (sh:Shp) (sa:List SA) (nt:Nat):St:=⟨argT 0 0 0 sa,argM 0 0 sa,newFs 0 0 sh.ao 0 sh.da,argN sa,sh.pt.length,sh.da.length,nt,[],List.range sh.pt.length⟩
def fnS (P:Program) (cf:Cfg) (sa:List SA) (f:FuncId):Option Tree:=match P.funcs[f]? with
 | some fn=>match fn.body with
  | some b=>match Nat.ble sa.length fn.ntmps && (cf.self.da.all (fun x=>Nat.blt x.1 (argN sa)) && ptEq cf.self.pt (ptOf 0 sa)) with
   | true=>codeS P cf b none (cf.tails.map fun x=>tailN x.1) true (st0 cf.self sa fn.ntmps) (retS P cf fn.results.toList) (fun _ _=>none) (retS P cf fn.results.toList)
   | false=>none
  | none=>none
 | none=>none
def regsT (id:Nat):Code→List (Array Oper × Bool)
 | .region n ops b=>match Nat.beq n id with
  | true=>[(ops,b)]
  | false=>[]
 | .seq x y=>regsT id x ++ regsT id y
 | .cond _ x y=>regsT id x ++ regsT id y
 | .block _ x=>regsT id x
 | .loop x=>regsT id x
 | _=>[]
def bodyT (P:Program) (f:FuncId):Code:=match P.funcs[f]? with
 | some fn=>match fn.body with
  | some b=>b
  | none=>.skip
 | none=>.skip
end Go.Proofs.YtdmacgoeikjdbaaGreatDoor.Sx

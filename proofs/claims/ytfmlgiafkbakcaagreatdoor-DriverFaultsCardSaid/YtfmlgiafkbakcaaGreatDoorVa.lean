/- An evaluator of a program's code over memory of its own: values, memory, a call's places. The evaluator's operations. The evaluator: code, calls. -/
import GoSem.Step
import Derived.Orders
import GoSem.ClaimKeys
import GoSem.ClaimDataLaid
namespace Go.Proofs.YtfmlgiafkbakcaaGreatDoor.Ev

/-- values: an address is a number of ours and a place; a slice tells how many cells an element takes, and whether it can bear no more -/
inductive AV where
  | int (k : IntKind) (n : Int)
  | bool (b : Bool)
  | str (len n : Nat)
  | nilp
  | ptr (id off : Nat)
  | nils
  | sl (id off len z : Nat) (ex : Bool)
  | slen (len : Nat)
  | nilm
  | map (id : Nat)
  | nilf
  | nili
  | fn (f : FuncId) (first caps : AV)
  | ifc (t : Nat) (v : AV)
  | agg (cs : AV)
  | tup (cs : AV)
  | nil
  | cons (a b : AV)

instance : Inhabited AV := ⟨.nil⟩

inductive Tr (α : Type) where
  | nil
  | full (v : α)
  | node (v : Option α) (a b c d : Tr α)

def Tr.get {α : Type} : Tr α → Nat → Option α
  | .nil, _ => none
  | .full v, _ => some v
  | .node v a b c d, k => match k with
    | 0 => v
    | m + 1 => match Nat.mod m 4 with
      | 0 => a.get (Nat.div m 4)
      | 1 => b.get (Nat.div m 4)
      | 2 => c.get (Nat.div m 4)
      | _ => d.get (Nat.div m 4)

def Tr.sing {α : Type} (v : Option α) : Nat → Nat → Tr α
  | 0, _ => .nil
  | f + 1, k => match k with
    | 0 => .node v .nil .nil .nil .nil
    | m + 1 => match Nat.mod m 4 with
      | 0 => .node none (Tr.sing v f (Nat.div m 4)) .nil .nil .nil
      | 1 => .node none .nil (Tr.sing v f (Nat.div m 4)) .nil .nil
      | 2 => .node none .nil .nil (Tr.sing v f (Nat.div m 4)) .nil
      | _ => .node none .nil .nil .nil (Tr.sing v f (Nat.div m 4))

def Tr.over {α : Type} (w : α) (v : Option α) : Nat → Nat → Tr α
  | 0, _ => .full w
  | f + 1, k => match k with
    | 0 => .node v (.full w) (.full w) (.full w) (.full w)
    | m + 1 => match Nat.mod m 4 with
      | 0 => .node (some w) (Tr.over w v f (Nat.div m 4)) (.full w) (.full w) (.full w)
      | 1 => .node (some w) (.full w) (Tr.over w v f (Nat.div m 4)) (.full w) (.full w)
      | 2 => .node (some w) (.full w) (.full w) (Tr.over w v f (Nat.div m 4)) (.full w)
      | _ => .node (some w) (.full w) (.full w) (.full w) (Tr.over w v f (Nat.div m 4))

def Tr.set {α : Type} (x : Option α) : Tr α → Nat → Tr α
  | .nil, k => Tr.sing x (Nat.succ k) k
  | .full w, k => Tr.over w x (Nat.succ k) k
  | .node v a b c d, k => match k with
    | 0 => .node x a b c d
    | m + 1 => match Nat.mod m 4 with
      | 0 => .node v (a.set x (Nat.div m 4)) b c d
      | 1 => .node v a (b.set x (Nat.div m 4)) c d
      | 2 => .node v a b (c.set x (Nat.div m 4)) d
      | _ => .node v a b c (d.set x (Nat.div m 4))

/-- a block of ours -/
inductive AObj where
  | cells (c : Tr AV) (n : Nat) (own : Bool) (ancs : List Nat)
  | map (es : AV)

structure H where
  objs : Tr AObj
  next : Nat

structure P4 (α : Type) where
  a : α
  b : α
  c : α
  d : α

def P4.sa {α : Type} (f : α → α) (e : P4 α) : P4 α := match e with | ⟨a, b, c, d⟩ => ⟨f a, b, c, d⟩
def P4.sb {α : Type} (f : α → α) (e : P4 α) : P4 α := match e with | ⟨a, b, c, d⟩ => ⟨a, f b, c, d⟩
def P4.sc {α : Type} (f : α → α) (e : P4 α) : P4 α := match e with | ⟨a, b, c, d⟩ => ⟨a, b, f c, d⟩
def P4.sd {α : Type} (f : α → α) (e : P4 α) : P4 α := match e with | ⟨a, b, c, d⟩ => ⟨a, b, c, f d⟩

/-- a call's places -/
abbrev E := P4 (P4 (P4 (P4 (P4 AV))))

structure PJ where f : (α : Type) → P4 α → α
structure PS where f : (α : Type) → (α → α) → P4 α → P4 α

def pj (d : Nat) : PJ := match d with
  | 0 => ⟨fun _ e => e.a⟩
  | 1 => ⟨fun _ e => e.b⟩
  | 2 => ⟨fun _ e => e.c⟩
  | _ => ⟨fun _ e => e.d⟩

def ps (d : Nat) : PS := match d with
  | 0 => ⟨fun _ f e => P4.sa f e⟩
  | 1 => ⟨fun _ f e => P4.sb f e⟩
  | 2 => ⟨fun _ f e => P4.sc f e⟩
  | _ => ⟨fun _ f e => P4.sd f e⟩

structure G where get : E → AV
structure S where set : AV → E → E

def cgetT (t : Nat) : G := match pj (Nat.div t 256), pj (Nat.mod (Nat.div t 64) 4), pj (Nat.mod (Nat.div t 16) 4), pj (Nat.mod (Nat.div t 4) 4), pj (Nat.mod t 4) with
  | ⟨f⟩, ⟨g⟩, ⟨h⟩, ⟨i⟩, ⟨j⟩ => ⟨fun e => j _ (i _ (h _ (g _ (f _ e))))⟩

def cset (t : Nat) : S := match ps (Nat.div t 256), ps (Nat.mod (Nat.div t 64) 4), ps (Nat.mod (Nat.div t 16) 4), ps (Nat.mod (Nat.div t 4) 4), ps (Nat.mod t 4) with
  | ⟨f⟩, ⟨g⟩, ⟨h⟩, ⟨i⟩, ⟨j⟩ => ⟨fun v e => f _ (g _ (h _ (i _ (j _ fun _ => v)))) e⟩

def csetO (t : Option Nat) : S := match t with
  | some t => cset t
  | none => ⟨fun _ e => e⟩

/-- a value that bears no address -/
def encS : List UInt8 → Nat
  | [] => 0
  | b :: l => Nat.add b.toNat (Nat.mul 256 (encS l))

def avOf1 (v : Value) : Option AV := match v with
  | .int k n => some (.int k n)
  | .bool b => some (.bool b)
  | .string s => some (.str s.data.toList.length (encS s.data.toList))
  | .pointer none => some .nilp
  | .slice none 0 0 => some .nils
  | .map none => some .nilm
  | .nilFunc => some .nilf
  | .nilIface => some .nili
  | .func (.func f) ⟨[]⟩ ⟨[]⟩ => some (.fn f .nil .nil)
  | _ => none

def avL : List Value → Option AV
  | [] => some .nil
  | v :: l => match avOf1 v, avL l with
    | some a, some b => some (.cons a b)
    | _, _ => none

def avOf (v : Value) : Option AV := match v with
  | .agg cs => match avL cs.toList with
    | some a => some (.agg a)
    | none => none
  | .tuple ⟨[]⟩ => some (.tup .nil)
  | v => avOf1 v

def AV.length : AV → Nat
  | .cons _ b => Nat.succ b.length
  | _ => 0

def AV.take : Nat → AV → AV
  | 0, _ => .nil
  | n + 1, .cons a b => .cons a (b.take n)
  | _ + 1, _ => .nil

def AV.drop : Nat → AV → AV
  | 0, l => l
  | n + 1, .cons _ b => b.drop n
  | _ + 1, _ => .nil

def AV.append (l : AV) (m : AV) : AV := match l with
  | .cons a b => .cons a (b.append m)
  | _ => m

def AV.nth : Nat → AV → Option AV
  | 0, .cons a _ => some a
  | n + 1, .cons _ b => b.nth n
  | _, _ => none

/-- the cells of a value -/
def AV.cells (v : AV) : Option AV := match v with
  | .agg cs => some cs
  | .tup _ => none
  | .nil => none
  | .cons _ _ => none
  | v => some (.cons v .nil)

/-- a tree of these, from k on -/
def Tr.putL (t : Tr AV) (k : Nat) (l : AV) : Tr AV := match l with
  | .cons a b => (t.set (some a) k).putL (Nat.succ k) b
  | _ => t

/-- n cells from k on -/
def Tr.getL (t : Tr AV) : Nat → Nat → Option AV
  | _, 0 => some .nil
  | k, n + 1 => match t.get k with
    | some a => match t.getL (Nat.succ k) n with
      | some l => some (.cons a l)
      | none => none
    | none => none

end Go.Proofs.YtfmlgiafkbakcaaGreatDoor.Ev

namespace Go.Proofs.YtfmlgiafkbakcaaGreatDoor.Ev

inductive O where
  | ok (v : AV) (h : H)
  | no (why : Nat)

def forceN {ρ : Type} (n : Nat) (K : Nat → ρ) : ρ := match n with
  | 0 => K 0
  | m + 1 => K (Nat.succ m)

def fits (k : IntKind) (n : Int) : Bool := match k, n with
  | .i64, .ofNat m => Nat.blt m 9223372036854775808
  | .i64, .negSucc m => Nat.blt m 9223372036854775808
  | .u64, .ofNat m => Nat.blt m 18446744073709551616
  | .u8, .ofNat m => Nat.blt m 256
  | .i32, .ofNat m => Nat.blt m 2147483648
  | .i32, .negSucc m => Nat.blt m 2147483648
  | _, _ => false

def wrapA (k : IntKind) (n : Int) : Int := match fits k n with
  | true => n
  | false => k.wrap n

/-- an integer, worked out -/
def mkI (k : IntKind) (n : Int) : AV := match n with
  | .ofNat m => forceN m fun m => .int k (.ofNat m)
  | .negSucc m => forceN m fun m => .int k (.negSucc m)

def ltI (x y : Int) : Bool := match x, y with
  | .ofNat x, .ofNat y => Nat.blt x y
  | .negSucc _, .ofNat _ => true
  | .ofNat _, .negSucc _ => false
  | .negSucc x, .negSucc y => Nat.blt y x

def eqI (x y : Int) : Bool := match x, y with
  | .ofNat x, .ofNat y => Nat.beq x y
  | .negSucc x, .negSucc y => Nat.beq x y
  | _, _ => false

def kindN : IntKind → Nat
  | .i8 => 0 | .i16 => 1 | .i32 => 2 | .i64 => 3 | .u8 => 4 | .u16 => 5 | .u32 => 6 | .u64 => 7

def bitsOp (op : BinOp) (k : IntKind) (x y : Int) : Option Int :=
  let a := BitVec.ofInt k.bits x
  let b := BitVec.ofInt k.bits y
  match op with
  | .and => some (k.wrap (a &&& b).toNat)
  | .or => some (k.wrap (a ||| b).toNat)
  | .xor => some (k.wrap (a ^^^ b).toNat)
  | .andNot => some (k.wrap (a &&& ~~~b).toNat)
  | _ => none

def intOp (op : BinOp) (k : IntKind) (x y : Int) : Option AV := match op with
  | .add => some (mkI k (wrapA k (Int.add x y)))
  | .sub => some (mkI k (wrapA k (Int.sub x y)))
  | .mul => some (mkI k (wrapA k (Int.mul x y)))
  | .eql => some (.bool (eqI x y))
  | .neq => some (.bool (not (eqI x y)))
  | .lss => some (.bool (ltI x y))
  | .leq => some (.bool (not (ltI y x)))
  | .gtr => some (.bool (ltI y x))
  | .geq => some (.bool (not (ltI x y)))
  | .quo => match eqI y 0 with
    | true => none
    | false => some (mkI k (wrapA k (Int.tdiv x y)))
  | .rem => match eqI y 0 with
    | true => none
    | false => some (mkI k (Int.tmod x y))
  | .and | .or | .xor | .andNot => match bitsOp op k x y with
    | some n => some (mkI k n)
    | none => none
  | .shl => match y with
    | .ofNat m => some (mkI k (wrapA k (Int.mul x (.ofNat (Nat.pow 2 (Nat.min m k.bits))))))
    | .negSucc _ => none
  | .shr => match y with
    | .ofNat m => some (mkI k (Int.fdiv x (.ofNat (Nat.pow 2 (Nat.min m k.bits)))))
    | .negSucc _ => none

def strOp (op : BinOp) (l a m b : Nat) : Option AV := match op with
  | .eql => some (.bool (and (Nat.beq l m) (Nat.beq a b)))
  | .neq => some (.bool (not (and (Nat.beq l m) (Nat.beq a b))))
  | .add => match Nat.blt (Nat.add l m) 1000000000 with
    | true => forceN (Nat.add l m) fun len => forceN (Nat.add a (Nat.mul b (Nat.pow 256 l))) fun n => some (.str len n)
    | false => none
  | _ => none

/-- two cells of a plain kind -/
def eqCell (a b : AV) : Option Bool := match a, b with
  | .int k x, .int j y => match Nat.beq (kindN k) (kindN j) with
    | true => some (eqI x y)
    | false => none
  | .bool x, .bool y => some (match x, y with
    | true, b => b
    | false, b => not b)
  | .str l x, .str m y => some (and (Nat.beq l m) (Nat.beq x y))
  | _, _ => none

def keyKind : AV → Nat
  | .int _ _ => 0
  | .str _ _ => 1
  | .bool _ => 2
  | _ => 3

def eqCells : List Nat → AV → AV → Option Bool
  | [], .nil, .nil => some true
  | k :: ks, .cons a l, .cons b m => match Nat.beq (keyKind a) k, eqCell a b with
    | true, some true => eqCells ks l m
    | true, some false => some false
    | _, _ => none
  | _, _, _ => none

/-- how values of a type are held against each other -/
inductive ET where
  | bool | ptr | slice | func
  | flat (ks : List Nat)
  | none

def leafT (P : Program) (t : TypeId) : Option Nat := match P.underlying t with
  | some (.int _) => some 0
  | some .string => some 1
  | some .bool => some 2
  | _ => none

/-- a struct's fields, if each is one plain cell -/
def flatT (P : Program) : Nat → List Field → Option (List Nat)
  | _, [] => some []
  | k, f :: fs => match f.name != "_" && Nat.beq f.offset k, leafT P f.type, flatT P (k + 1) fs with
    | true, some a, some l => some (a :: l)
    | _, _, _ => none

def etT (P : Program) (t : TypeId) : ET := match P.underlying t with
  | some .bool => .bool
  | some (.pointer e) => match P.info? e with
    | some i => match i.size with
      | 0 => .none
      | _ => .ptr
    | none => .none
  | some (.slice _) => .slice
  | some (.func _ _ _) => .func
  | some (.struct fs) => match flatT P 0 fs.toList, P.stoodInHeld t || P.eqGuardType P.depth t with
    | some l, false => .flat l
    | _, _ => .none
  | _ => .none

def memN (k : Nat) : List Nat → Bool
  | [] => false
  | a :: l => match Nat.beq k a with
    | true => true
    | false => memN k l

/-- may two numbers of ours be one block? -/
def apartIds (h : H) (i j : Nat) : Bool :=
  (match h.objs.get i, h.objs.get j with
  | some (.cells _ _ true l), some (.cells _ _ _ _) => not (memN j l)
  | some (.cells _ _ _ _), some (.cells _ _ true l) => not (memN i l)
  | _, _ => false)

def eqPtr (h : H) (i a j b : Nat) : Option Bool := match Nat.beq i j with
  | true => some (Nat.beq a b)
  | false => match apartIds h i j with
    | true => some false
    | false => none

/-- two values of a type held against each other -/
def eqAny (et : ET) (h : H) (x y : AV) : Option Bool := match et, x, y with
  | .bool, .bool a, .bool b => some (match a, b with
    | true, b => b
    | false, b => not b)
  | .flat ks, .agg a, .agg b => eqCells ks a b
  | .ptr, .nilp, .nilp => some true
  | .ptr, .nilp, .ptr _ _ => some false
  | .ptr, .ptr _ _, .nilp => some false
  | .ptr, .ptr i a, .ptr j b => eqPtr h i a j b
  | .slice, .nils, .nils => some true
  | .slice, .nils, .sl _ _ _ _ _ => some false
  | .slice, .sl _ _ _ _ _, .nils => some false
  | .func, .nilf, .nilf => some true
  | .func, .nilf, .fn _ _ _ => some false
  | .func, .fn _ _ _, .nilf => some false
  | _, _, _ => none

def binA (op : BinOp) (et : ET) (x y : AV) (h : H) : O := match x, y with
  | .int k a, .int j b => match op with
    | .shl | .shr => match intOp op k a b with
      | some v => .ok v h
      | none => .no 1
    | _ => match Nat.beq (kindN k) (kindN j) with
      | true => match intOp op k a b with
        | some v => .ok v h
        | none => .no 2
      | false => .no 3
  | .str l a, .str m b => match strOp op l a m b with
    | some v => .ok v h
    | none => .no 4
  | x, y => match op with
    | .eql => match eqAny et h x y with
      | some b => .ok (.bool b) h
      | none => .no 5
    | .neq => match eqAny et h x y with
      | some b => .ok (.bool (not b)) h
      | none => .no 6
    | _ => .no 7

def unA (op : UnOp) (x : AV) (h : H) : O := match op, x with
  | .not, .bool b => .ok (.bool (not b)) h
  | .neg, .int k n => .ok (mkI k (wrapA k (Int.neg n))) h
  | .xor, .int k n => match bitsOp .xor k (if k.signed then -1 else k.max) n with
    | some n => .ok (mkI k n) h
    | none => .no 8
  | _, _ => .no 9

def convA (k : IntKind) (x : AV) (h : H) : O := match x with
  | .int _ n => .ok (mkI k (wrapA k n)) h
  | _ => .no 10

/-- new memory -/
def newA (cs : Tr AV) (n : Nat) (h : H) : O := match h with
  | ⟨o, k⟩ => .ok (.ptr k 0) ⟨o.set (some (.cells cs n true [])) k, Nat.succ k⟩

def boxA (x : AV) (h : H) : O := match x.cells with
  | some cs => newA (Tr.nil.putL 0 cs) cs.length h
  | none => .no 58

def loadA (row : Option Nat) (x : AV) (h : H) : O := match x with
  | .ptr id off => match h.objs.get id with
    | some (.cells c n _ _) => match row with
      | none => match Nat.blt off n with
        | true => match c.get off with
          | some v => .ok v h
          | none => .no 11
        | false => .no 54
      | some k => match Nat.ble (Nat.add off k) n with
        | true => match c.getL off k with
          | some l => .ok (.agg l) h
          | none => .no 12
        | false => .no 55
    | _ => .no 13
  | _ => .no 14

def kill (l : List Nat) (t : Tr AObj) : Tr AObj := match l with
  | [] => t
  | k :: l => kill l (t.set none k)

/-- cells written -/
def putA (id off : Nat) (cs : AV) (h : H) : Option H := match h.objs.get id with
  | some (.cells c n own ancs) => match and own (Nat.ble (Nat.add off cs.length) n) with
    | true => some ⟨(kill ancs h.objs).set (some (.cells (c.putL off cs) n true [])) id, h.next⟩
    | false => none
  | _ => none

def storeA (size : Nat) (x v : AV) (h : H) : O := match x with
  | .ptr id off => match v.cells with
    | some cs => match Nat.beq cs.length size with
      | true => match putA id off cs h with
        | some h => .ok (.tup .nil) h
        | none => .no 15
      | false => .no 16
    | none => .no 58
  | _ => .no 17

/-- a slice's cells -/
def sliceCells (x : AV) (z : Nat) (h : H) : Option AV := match x with
  | .nils => some .nil
  | .sl id off len _ _ => match h.objs.get id with
    | some (.cells c n _ _) => match Nat.ble (Nat.add off (Nat.mul len z)) n with
      | true => c.getL off (Nat.mul len z)
      | false => none
    | _ => none
  | _ => none

def lenA (x : AV) : Option Nat := match x with
  | .nils => some 0
  | .sl _ _ len _ _ => some len
  | .slen len => some len
  | .str len _ => some len
  | _ => none

def appendNew (cs : Tr AV) (n len z : Nat) (h : H) : O := match h with
  | ⟨o, k⟩ => .ok (.sl k 0 len z false) ⟨o.set (some (.cells cs n true [])) k, Nat.succ k⟩

/-- a slice's cells, the new ones behind them -/
def grownC (c : Tr AV) (off n : Nat) (xs : AV) : Option (Tr AV) := match off with
  | 0 => some (c.putL n xs)
  | _ => match c.getL off n with
    | some ss => some ((Tr.nil.putL 0 ss).putL n xs)
    | none => none

def appendOwn (z : Nat) (id off len m : Nat) (xs : AV) (h : H) : O := match h.objs.get id with
  | some (.cells c n true ancs) => match Nat.ble (Nat.add off (Nat.mul len z)) n with
    | true => match grownC c off (Nat.mul len z) xs with
      | some c2 => forceN (Nat.add len m) fun len' => match h with
        | ⟨o, k⟩ => match Nat.beq (Nat.add off (Nat.mul len z)) n with
          | true => .ok (.sl k 0 len' z false) ⟨(o.set (some (.cells c n false ancs)) id).set (some (.cells c2 (Nat.mul len' z) true (id :: ancs))) k, Nat.succ k⟩
          | false => .ok (.sl k 0 len' z false) ⟨(kill (id :: ancs) o).set (some (.cells c2 (Nat.mul len' z) true [])) k, Nat.succ k⟩
      | none => .no 20
    | false => .no 21
  | _ => .no 22

/-- cells appended -/
def appendB (z : Nat) (s xs : AV) (m : Nat) (h : H) : O := match m with
  | 0 => match s with
    | .nils => .ok s h
    | .sl _ _ _ _ _ => .ok s h
    | _ => .no 18
  | _ => match s with
    | .nils => match Nat.blt m 1000000 with
      | true => appendNew (Tr.nil.putL 0 xs) (Nat.mul m z) m z h
      | false => .no 26
    | .sl id off len z' ex => match and (Nat.beq z z') (Nat.blt (Nat.add len m) 1000000) with
      | true => match ex with
        | true => match sliceCells s z h with
          | some ss => forceN (Nat.add len m) fun len' => appendNew ((Tr.nil.putL 0 ss).putL (Nat.mul len z) xs) (Nat.mul len' z) len' z h
          | none => .no 19
        | false => appendOwn z id off len m xs h
      | false => .no 23
    | _ => .no 24

def appendA (z : Nat) (s x : AV) (h : H) : O := match sliceCells x z h, lenA x with
  | some xs, some m => appendB z s xs m h
  | _, _ => .no 25

def indexAddrA (z : Nat) (x i : AV) (h : H) : O := match x, i with
  | .sl id off len _ _, .int _ n => match n with
    | .ofNat m => match Nat.blt m len with
      | true => forceN (Nat.add off (Nat.mul m z)) fun o => .ok (.ptr id o) h
      | false => .no 26
    | .negSucc _ => .no 27
  | _, _ => .no 28

def fieldAddrA (off : Nat) (x : AV) (h : H) : O := match x with
  | .ptr id o => forceN (Nat.add o off) fun o => .ok (.ptr id o) h
  | _ => .no 29

def indexStrA (x i : AV) (h : H) : O := match x, i with
  | .str len s, .int _ n => match n with
    | .ofNat m => match Nat.blt m len with
      | true => forceN (Nat.mod (Nat.div s (Nat.pow 256 m)) 256) fun b => .ok (.int .u8 (.ofNat b)) h
      | false => .no 30
    | .negSucc _ => .no 31
  | _, _ => .no 32

def natA (d : Nat) (x : Option AV) : Option Nat := match x with
  | none => some d
  | some (.int _ (.ofNat m)) => some m
  | _ => none

/-- a slice, or a text, from l up to k -/
def sliceA (str : Bool) (z : Nat) (x : AV) (lo hi : Option AV) (h : H) : O := match lenA x with
  | some len => match natA 0 lo, natA len hi with
    | some l, some k => match and (Nat.ble l k) (Nat.ble k len) with
      | true => match str, x with
        | false, .nils => .ok .nils h
        | false, .sl id off _ z' ex => match Nat.beq z z' with
          | true => forceN (Nat.add off (Nat.mul l z)) fun o => forceN (Nat.sub k l) fun n => .ok (.sl id o n z (and ex (Nat.beq k len))) h
          | false => .no 33
        | true, .str _ s => forceN (Nat.sub k l) fun n => forceN (Nat.mod (Nat.div s (Nat.pow 256 l)) (Nat.pow 256 n)) fun s => .ok (.str n s) h
        | _, _ => .no 33
      | false => .no 34
    | _, _ => .no 35
  | none => .no 36

def extractA (i : Nat) (x : AV) (h : H) : O := match x with
  | .tup l => match l.nth i with
    | some v => .ok v h
    | none => .no 37
  | _ => .no 38

def fieldA (off : Nat) (row : Option Nat) (x : AV) (h : H) : O := match x with
  | .agg l => match row with
    | none => match l.nth off with
      | some v => .ok v h
      | none => .no 39
    | some k => .ok (.agg ((l.drop off).take k)) h
  | _ => .no 40

/-- held against the literal nil -/
def nilEqA (op : BinOp) (x y : AV) (h : H) : O := match x, y with
  | .nili, .nili => match op with
    | .eql => .ok (.bool true) h
    | .neq => .ok (.bool false) h
    | _ => .no 143
  | _, _ => .no 144

def isNilC : Operand → Bool
  | .const .nilIface => true
  | _ => false

/-- bytes: how many, which -/
def bytesA : AV → Option (Nat × Nat)
  | .nil => some (0, 0)
  | .cons (.int .u8 (.ofNat b)) l => match Nat.blt b 256, bytesA l with
    | true, some (k, n) => some (Nat.succ k, Nat.add b (Nat.mul 256 n))
    | _, _ => none
  | _ => none

/-- bytes made a text -/
def bytesStrA (x : AV) (h : H) : O := match sliceCells x 1 h with
  | some cs => match bytesA cs with
    | some (k, n) => forceN k fun k => forceN n fun n => .ok (.str k n) h
    | none => .no 141
  | none => .no 142

def nilCheckA (x : AV) (h : H) : O := match x with
  | .ptr _ _ => .ok x h
  | .fn _ _ _ => .ok x h
  | _ => .no 41

def pickA (c a b : AV) (h : H) : O := match c with
  | .bool true => .ok a h
  | .bool false => .ok b h
  | _ => .no 42

def spliceA : Nat → AV → AV → AV
  | 0, vs, cs => vs.append (cs.drop vs.length)
  | n + 1, vs, .cons a b => .cons a (spliceA n vs b)
  | _ + 1, _, _ => .nil

/-- parts laid into a row -/
def fillA (cs : AV) : List (Nat × Nat × AV) → Option AV
  | [] => some cs
  | (off, size, v) :: l => match v.cells with
    | some vs => match and (Nat.beq vs.length size) (Nat.ble (Nat.add off size) cs.length) with
      | true => fillA (spliceA off vs cs) l
      | false => none
    | none => none

def makeMapA (h : H) : O := match h with
  | ⟨o, k⟩ => .ok (.map k) ⟨o.set (some (.map .nil)) k, Nat.succ k⟩

/-- a key's entry: value -/
def findA (k : AV) : AV → Option (Option AV)
  | .cons (.cons a v) l => match eqCell k a with
    | some true => some (some v)
    | some false => findA k l
    | none => none
  | .nil => some none
  | _ => none

def putE (k v : AV) : AV → Option AV
  | .cons (.cons a u) l => match eqCell k a with
    | some true => some (.cons (.cons k v) l)
    | some false => match putE k v l with
      | some l => some (.cons (.cons a u) l)
      | none => none
    | none => none
  | .nil => some (.cons (.cons k v) .nil)
  | _ => none

def lookupA (kd : Nat) (zero : AV) (ok : Bool) (m k : AV) (h : H) : O := match m with
  | .map id => match h.objs.get id, Nat.beq (keyKind k) kd with
    | some (.map es), true => match findA k es with
      | some (some v) => .ok (match ok with
        | true => .tup (.cons v (.cons (.bool true) .nil))
        | false => v) h
      | some none => .ok (match ok with
        | true => .tup (.cons zero (.cons (.bool false) .nil))
        | false => zero) h
      | none => .no 43
    | _, _ => .no 44
  | .nilm => match Nat.beq (keyKind k) kd with
    | true => .ok (match ok with
      | true => .tup (.cons zero (.cons (.bool false) .nil))
      | false => zero) h
    | false => .no 44
  | _ => .no 45

def mapUpdateA (kd : Nat) (m k v : AV) (h : H) : O := match m with
  | .map id => match h.objs.get id, Nat.beq (keyKind k) kd with
    | some (.map es), true => match putE k v es with
      | some es => .ok (.tup .nil) ⟨h.objs.set (some (.map es)) id, h.next⟩
      | none => .no 46
    | _, _ => .no 47
  | _ => .no 48

/-! ### maps by keys that are structs or arrays -/

/-- cells of such kinds: a number that fits, or a truth value -/
def cellsK : List (Option IntKind) → AV → Bool
  | [], .nil => true
  | some q :: ks, .cons (.int k n) l => match Nat.beq (kindN q) (kindN k), fits k n with
    | true, true => cellsK ks l
    | _, _ => false
  | none :: ks, .cons (.bool _) l => cellsK ks l
  | _, _ => false

def eqPl : AV → AV → Bool
  | .cons (.int _ a) l, .cons (.int _ b) m => match eqI a b with
    | true => eqPl l m
    | false => false
  | .cons (.bool a) l, .cons (.bool b) m => match a, b with
    | true, true => eqPl l m
    | false, false => eqPl l m
    | _, _ => false
  | .nil, .nil => true
  | _, _ => false

/-- a key's one entry: value -/
def findD (ks : List (Option IntKind)) (k : AV) : AV → Option (Option AV)
  | .nil => some none
  | .cons (.cons (.agg a) v) l => match cellsK ks a, findD ks k l with
    | true, some r => match eqPl k a, r with
      | true, none => some (some v)
      | true, some _ => none
      | false, r => some r
    | _, _ => none
  | _ => none

def putD (k v : AV) : AV → AV
  | .cons (.cons (.agg a) u) l => match eqPl k a with
    | true => .cons (.cons (.agg k) v) l
    | false => .cons (.cons (.agg a) u) (putD k v l)
  | _ => .cons (.cons (.agg k) v) .nil

def lookupDA (ks : List (Option IntKind)) (zero : AV) (ok : Bool) (m k : AV) (h : H) : O := match m, k with
  | .map id, .agg c => match h.objs.get id, cellsK ks c with
    | some (.map es), true => match findD ks c es with
      | some (some v) => .ok (match ok with
        | true => .tup (.cons v (.cons (.bool true) .nil))
        | false => v) h
      | some none => .ok (match ok with
        | true => .tup (.cons zero (.cons (.bool false) .nil))
        | false => zero) h
      | none => .no 180
    | _, _ => .no 181
  | _, _ => .no 182

def mapUpdateDA (ks : List (Option IntKind)) (m k v : AV) (h : H) : O := match m, k with
  | .map id, .agg c => match h.objs.get id, cellsK ks c with
    | some (.map es), true => match findD ks c es with
      | some _ => .ok (.tup .nil) ⟨h.objs.set (some (.map (putD c v es))) id, h.next⟩
      | none => .no 183
    | _, _ => .no 184
  | _, _ => .no 185

def maxA (x y : AV) (h : H) : O := match x, y with
  | .int k a, .int j b => match Nat.beq (kindN k) (kindN j) with
    | true => .ok (.int k (match ltI a b with
      | true => b
      | false => a)) h
    | false => .no 49
  | _, _ => .no 50

def repA (zero : AV) : Nat → AV
  | 0 => .nil
  | n + 1 => zero.append (repA zero n)

def clearA (z : Nat) (zero : AV) (s : AV) (h : H) : O := match s with
  | .nils => .ok (.tup .nil) h
  | .sl id off len z' _ => match Nat.beq z z', putA id off (repA zero len) h with
    | true, some h => .ok (.tup .nil) h
    | _, _ => .no 56
  | _ => .no 57

def lenO (str : Bool) (x : AV) (h : H) : O := match str, x with
  | true, .str len _ => .ok (.int .i64 (.ofNat len)) h
  | false, .nils => .ok (.int .i64 (.ofNat 0)) h
  | false, .sl _ _ len _ _ => .ok (.int .i64 (.ofNat len)) h
  | false, .slen len => .ok (.int .i64 (.ofNat len)) h
  | _, _ => .no 51

def makeSliceA (z : Nat) (zero : AV) (l c : AV) (h : H) : O := match l, c with
  | .int _ (.ofNat l), .int _ (.ofNat c) => match and (Nat.beq l c) (Nat.blt c 1000000) with
    | true => match h with
      | ⟨o, k⟩ => match zero with
        | .cons a .nil => .ok (.sl k 0 l z true) ⟨o.set (some (.cells (.full a) (Nat.mul l z) true [])) k, Nat.succ k⟩
        | zero => .ok (.sl k 0 l z true) ⟨o.set (some (.cells (Tr.nil.putL 0 (repA zero l)) (Nat.mul l z) true [])) k, Nat.succ k⟩
    | false => .no 52
  | _, _ => .no 53

end Go.Proofs.YtfmlgiafkbakcaaGreatDoor.Ev

namespace Go.Proofs.YtfmlgiafkbakcaaGreatDoor.Ev

abbrev CF := FuncId → AV → H → O

inductive R where
  | norm (e : E) (h : H)
  | exit (id : Nat) (e : E) (h : H)
  | ret (e : E) (h : H)
  | fail (why : Nat)

structure C where run : CF → E → H → R
structure OC where run : CF → E → H → O
structure GL where get : E → AV

def okOp : Operand → Bool
  | .tmp t => Nat.blt t 1024
  | .const v => (avOf v).isSome
  | .global _ => false
  | .func _ => true

def cget (x : Operand) : G := match x with
  | .tmp t => cgetT t
  | .const v => match avOf v with
    | some a => ⟨fun _ => a⟩
    | none => ⟨fun _ => .nil⟩
  | .global _ => ⟨fun _ => .nil⟩
  | .func f => ⟨fun _ => .fn f .nil .nil⟩

def cgets : List Operand → GL
  | [] => ⟨fun _ => .nil⟩
  | x :: l => match cget x, cgets l with
    | ⟨g⟩, ⟨r⟩ => ⟨fun e => .cons (g e) (r e)⟩

structure PL where get : E → List (Nat × Nat × AV)

def cparts : List (Nat × Nat × Operand) → PL
  | [] => ⟨fun _ => []⟩
  | (a, b, x) :: l => match cget x, cparts l with
    | ⟨g⟩, ⟨r⟩ => ⟨fun e => (a, b, g e) :: r e⟩

def cgetO (x : Option Operand) : Option G := match x with
  | none => none
  | some x => some (cget x)

def szT (P : Program) (t : TypeId) : Option Nat := match P.info? t with
  | some i => some i.size
  | none => none

/-- one cell, or so many -/
def rowT (P : Program) (t : TypeId) : Option (Option Nat) := match P.underlying t with
  | some (.struct _) => match szT P t with
    | some k => some (some k)
    | none => none
  | some (.array _ _) => match szT P t with
    | some k => some (some k)
    | none => none
  | some _ => some none
  | none => none

def zeroT (P : Program) (t : TypeId) : Option AV := match P.info? t with
  | some i => match i.zero with
    | some v => avOf v
    | none => none
  | none => none

/-- an element type of some cells, of not too many bytes, that has a zero value -/
def smallT (P : Program) (t : TypeId) : Bool := match P.info? t with
  | some i => match i.zero with
    | some v => Nat.ble i.bytes 1000 && !Nat.beq i.size 0 && Nat.beq v.cells.size i.size
    | none => false
  | none => false

/-- a zero value's cells -/
def zeroC (P : Program) (t : TypeId) : Option AV := match zeroT P t with
  | some z => z.cells
  | none => none

def elemT (P : Program) (t : TypeId) : Option TypeId := match P.underlying t with
  | some (.slice e) => some e
  | _ => none

def fieldT (P : Program) (t : TypeId) (i : Nat) : Option Field := match P.underlying t with
  | some (.struct fs) => fs.toList[i]?
  | _ => none

def no (n : Nat) : OC := ⟨fun _ _ _ => .no n⟩

def placesT (pl : List (Nat × Nat)) : List (Nat × Operand) → Option (List (Nat × Nat × Operand))
  | [] => some []
  | (i, x) :: l => match pl[i]? with
    | some (off, z) => match placesT pl l with
      | some r => some ((off, z, x) :: r)
      | none => none
    | none => none

/-- a struct's fields: place, cells -/
def fieldsT (P : Program) (fs : List Field) : Option (List (Nat × Nat)) := fs.mapM fun f => (P.info? f.type).map fun i => (f.offset, i.size)

def inOrder (k : Nat) : List (Nat × Operand) → Bool
  | [] => true
  | (i, _) :: l => Nat.beq i k && inOrder (k + 1) l

/-- cells of all, one behind the other; each of so many cells -/
def catA (z : Nat) : AV → Option AV
  | .cons v l => match v.cells with
    | some vs => match Nat.beq vs.length z with
      | true => match catA z l with
        | some m => some (vs.append m)
        | none => none
      | false => none
    | none => none
  | _ => some .nil

def buildSliceA (z n : Nat) (vs : AV) (h : H) : O := match catA z vs with
  | some cs => match h with
    | ⟨o, k⟩ => .ok (.sl k 0 n z true) ⟨o.set (some (.cells (Tr.nil.putL 0 cs) (Nat.mul n z) true [])) k, Nat.succ k⟩
  | none => .no 60

def buildA (z : AV) (l : List (Nat × Nat × AV)) (h : H) : O := match fillA z l with
  | some cs => .ok (.agg cs) h
  | none => .no 62

/-- a function of the program's own -/
def callable (P : Program) (f : FuncId) : Bool := match P.funcs[f]? with
  | some fn => !(fn.name == "runtime.NumGoroutine") && fn.body.isSome
  | none => false

def callvA (P : Program) (ih : CF) (f args : AV) (h : H) : O := match f with
  | .fn f first caps => match callable P f with
    | true => ih f ((first.append args).append caps) h
    | false => .no 61
  | _ => .no 61

def strCells : Nat → Nat → AV
  | 0, _ => .nil
  | l + 1, n => forceN (Nat.mod n 256) fun b => .cons (.int .u8 (.ofNat b)) (strCells l (Nat.div n 256))

/-- a text appended to bytes -/
def appendSA (s x : AV) (h : H) : O := match x with
  | .str m t => appendB 1 s (strCells m t) m h
  | _ => .no 25

def slice3A (z : Nat) (x : AV) (lo : Option AV) (hi mx : AV) (h : H) : O := match hi, mx with
  | .int _ (.ofNat a), .int _ (.ofNat b) => match Nat.beq a b with
    | true => match sliceA false z x lo (some hi) h with
      | .ok (.sl id o n z _) h => .ok (.sl id o n z true) h
      | r => r
    | false => .no 176
  | _, _ => .no 177

def isSl : AV → Bool
  | .nils => true
  | .sl _ _ _ _ _ => true
  | _ => false

def copyA (z : Nat) (x y : AV) (h : H) : O := match isSl x && isSl y, lenA x, lenA y with
  | true, some m, some n => match Nat.min n m with
    | 0 => .ok (.int .i64 (.ofNat 0)) h
    | k + 1 => match x, y with
      | .sl id off _ z' _, .sl id' off' _ z'' _ => match Nat.beq z z' && Nat.beq z z'' , sliceCells (.sl id' off' (k + 1) z false) z h with
        | true, some cs => match putA id off cs h with
          | some h => forceN (k + 1) fun k => .ok (.int .i64 (.ofNat k)) h
          | none => .no 151
        | _, _ => .no 152
      | _, _ => .no 153
  | _, _, _ => .no 154

def copySA (x y : AV) (h : H) : O := match y, x with
  | .str 0 _, .sl _ _ _ _ _ => .ok (.int .i64 (.ofNat 0)) h
  | _, _ => .no 178

/-- an array's parts -/
def indexArrA (row : Option Nat) (n z : Nat) (x i : AV) (h : H) : O := match x, i with
  | .agg l, .int _ (.ofNat m) => match Nat.blt m n with
    | true => fieldA (Nat.mul m z) row (.agg l) h
    | false => .no 157
  | _, _ => .no 158

def indexAddrArrA (n z : Nat) (x i : AV) (h : H) : O := match x, i with
  | .ptr id off, .int _ (.ofNat m) => match Nat.blt m n with
    | true => forceN (Nat.add off (Nat.mul m z)) fun o => .ok (.ptr id o) h
    | false => .no 159
  | _, _ => .no 160

def sliceArrA (n z : Nat) (x : AV) (lo hi : Option AV) (h : H) : O := match x, natA 0 lo, natA n hi with
  | .ptr id off, some l, some k => match h.objs.get id with
    | some (.cells _ n' _ _) => match and (and (Nat.ble l k) (Nat.ble k n)) (Nat.ble (Nat.add off (Nat.mul n z)) n') with
      | true => forceN (Nat.add off (Nat.mul l z)) fun o => forceN (Nat.sub k l) fun m => .ok (.sl id o m z (Nat.beq k n)) h
      | false => .no 161
    | _ => .no 186
  | _, _, _ => .no 162

/-- the cells' kinds of a struct's fields -/
def leafS (P : Program) (rec : TypeId → Option (List (Option IntKind))) : Nat → List Field → Option (List (Option IntKind))
  | _, [] => some []
  | k, f :: fs => match rec f.type with
    | some ks => match Nat.beq f.offset k && Nat.beq ks.length (P.cellsOf f.type), leafS P rec (k + ks.length) fs with
      | true, some l => some (ks ++ l)
      | _, _ => none
    | none => none

/-- the cells' kinds of a type: a number's kind, or a truth value -/
def leafD (P : Program) : Nat → TypeId → Option (List (Option IntKind))
  | 0, _ => none
  | d + 1, t => match P.underlying t with
    | some .bool => some [none]
    | some (.int q) => some [some q]
    | some (.array n e) => match leafD P d e with
      | some ks => match Nat.beq ks.length (P.cellsOf e) && Nat.beq (n * ks.length) (P.cellsOf t) with
        | true => some (List.replicate n ks).flatten
        | false => none
      | none => none
    | some (.struct fs) => match fs.all (·.name != "_"), leafS P (leafD P d) 0 fs.toList with
      | true, some ks => match Nat.beq ks.length (P.cellsOf t) with
        | true => some ks
        | false => none
      | _, _ => none
    | _ => none

/-- the program's rows lie as they should -/
class LaidOut (P : Program) : Prop where
  ok : laidOutB P = true

/-- keys that are structs or arrays -/
def deepT (P : Program) (t : TypeId) : Option (List (Option IntKind)) := match P.underlying t with
  | some (.array _ _) | some (.struct _) => match P.keyType t && Nat.blt t P.types.size && Nat.ble (P.types.size + 2) 10000, leafD P (P.types.size + 1) t with
    | true, some ks => match Nat.beq ks.length (P.cellsOf t) with
      | true => some ks
      | false => none
    | _, _ => none
  | _ => none

/-- a map's kind of key -/
def kdT (P : Program) (t : TypeId) : Option Nat := match P.underlying t with
  | some (.int _) => some 0
  | some .string => some 1
  | some .bool => some 2
  | _ => none

def methsT (P : Program) (name : String) : List (Nat × FuncId) := (List.range P.types.size).filterMap fun t => match P.info? t with
  | some i => match i.methods.find? (·.name == name), P.underlying t with
    | some m, some (.pointer _) => match m.path.toList, m.func with
      | [], some (f, true) => if callable P f then some (t, f) else none
      | _, _ => none
    | _, _ => none
  | none => none

def lookM (t : Nat) : List (Nat × FuncId) → Option FuncId
  | [] => none
  | (a, f) :: l => match Nat.beq a t with
    | true => some f
    | false => lookM t l

def invokeA (M : List (Nat × FuncId)) (ih : CF) (r args : AV) (h : H) : O := match r with
  | .ifc t v => match lookM t M with
    | some f => ih f (.cons v args) h
    | none => .no 171
  | _ => .no 172

/-- a call -/
def ccall (P : Program) (c : Call) : OC := match c.callee with
  | .value (.func f) => match callable P f with
    | true => ⟨fun ih e h => ih f ((cgets c.args.toList).get e) h⟩
    | false => no 125
  | .value x => ⟨fun ih e h => callvA P ih ((cget x).get e) ((cgets c.args.toList).get e) h⟩
  | .builtin b => match b, c.args.toList, c.argTypes.toList with
    | .len, [x], [t] => match P.underlying t with
      | some .string => ⟨fun _ e h => lenO true ((cget x).get e) h⟩
      | some (.slice _) => ⟨fun _ e h => lenO false ((cget x).get e) h⟩
      | _ => no 121
    | .append, [s, x], [t, u] => match elemT P t, elemT P u with
      | some el, some _ => match szT P el, smallT P el with
        | some z, true => ⟨fun _ e h => appendA z ((cget s).get e) ((cget x).get e) h⟩
        | _, _ => no 92
      | some el, none => match P.underlying u, szT P el, smallT P el with
        | some .string, some 1, true => ⟨fun _ e h => appendSA ((cget s).get e) ((cget x).get e) h⟩
        | _, _, _ => no 173
      | _, _ => no 93
    | .clear, [s], [t] => match elemT P t with
      | some el => match szT P el, zeroC P el with
        | some z, some zero => match smallT P el && Nat.beq zero.length z with
          | true => ⟨fun _ e h => clearA z zero ((cget s).get e) h⟩
          | false => no 98
        | _, _ => no 98
      | none => no 99
    | .copy, [x, y], [t, u] => match elemT P t, elemT P u with
      | some el, some _ => match szT P el with
        | some z => ⟨fun _ e h => copyA z ((cget x).get e) ((cget y).get e) h⟩
        | none => no 149
      | some el, none => match szT P el with
        | some _ => ⟨fun _ e h => copySA ((cget x).get e) ((cget y).get e) h⟩
        | none => no 187
      | _, _ => no 150
    | .max, [x, y], _ => ⟨fun _ e h => maxA ((cget x).get e) ((cget y).get e) h⟩
    | _, _, _ => no 95
  | .invoke recv name => let M := methsT P name; ⟨fun ih e h => invokeA M ih ((cget recv).get e) ((cgets c.args.toList).get e) h⟩

/-- one operation -/
def cop (P : Program) (o : Op) : OC := match o with
  | .move x | .assign x => ⟨fun _ e h => .ok ((cget x).get e) h⟩
  | .pick c a b => ⟨fun _ e h => pickA ((cget c).get e) ((cget a).get e) ((cget b).get e) h⟩
  | .alloc t => match zeroT P t with
    | some z => ⟨fun _ _ h => boxA z h⟩
    | none => no 70
  | .box _ x => ⟨fun _ e h => boxA ((cget x).get e) h⟩
  | .build t ps => match P.underlying t, zeroT P t with
    | some (.struct fs), some (.agg z) => match fieldsT P fs.toList with
      | some pl => match placesT pl ps.toList with
        | some l => ⟨fun _ e h => buildA z ((cparts l).get e) h⟩
        | none => no 72
      | none => no 71
    | some (.array n el), some (.agg z) => match szT P el with
      | some k => match ps.toList.all fun p => Nat.blt p.1 n with
        | true => ⟨fun _ e h => buildA z ((cparts (ps.toList.map fun p => (p.1 * k, k, p.2))).get e) h⟩
        | false => no 168
      | none => no 169
    | _, _ => no 73
  | .buildSlice t n ps => match elemT P t with
    | some el => match szT P el with
      | some z => match Nat.beq n ps.toList.length && inOrder 0 ps.toList && Nat.ble (Nat.mul n z) 1000000 && !Nat.beq z 0 && (zeroT P el).isSome with
        | true => ⟨fun _ e h => buildSliceA z n ((cgets (ps.toList.map (·.2))).get e) h⟩
        | false => no 74
      | none => no 75
    | none => no 76
  | .load t x => match rowT P t with
    | some r => ⟨fun _ e h => loadA r ((cget x).get e) h⟩
    | none => no 77
  | .store t x v => match szT P t with
    | some z => ⟨fun _ e h => storeA z ((cget x).get e) ((cget v).get e) h⟩
    | none => no 78
  | .nilCheck x => ⟨fun _ e h => nilCheckA ((cget x).get e) h⟩
  | .binOp op t x y _ => match isNilC x || isNilC y with
    | true => match P.underlying t with
      | some (.interface _) => ⟨fun _ e h => nilEqA op ((cget x).get e) ((cget y).get e) h⟩
      | _ => no 145
    | false => ⟨fun _ e h => binA op (etT P t) ((cget x).get e) ((cget y).get e) h⟩
  | .unOp op _ x => ⟨fun _ e h => unA op ((cget x).get e) h⟩
  | .convert s t x => match P.underlying s, P.underlying t with
    | some _, some (.int k) => ⟨fun _ e h => convA k ((cget x).get e) h⟩
    | some (.slice el), some .string => match P.underlying el with
      | some (.int .u8) => ⟨fun _ e h => bytesStrA ((cget x).get e) h⟩
      | _ => no 146
    | _, _ => no 79
  | .makeInterface t x => match P.underlying t with
    | some (.pointer _) => ⟨fun _ e h => .ok (.ifc t ((cget x).get e)) h⟩
    | _ => no 170
  | .makeFunc (.func f) first caps => ⟨fun _ e h => .ok (.fn f ((cgets first.toList).get e) ((cgets caps.toList).get e)) h⟩
  | .makeMap _ none => ⟨fun _ _ h => makeMapA h⟩
  | .makeSlice t l c => match elemT P t with
    | some el => match szT P el, zeroC P el with
      | some z, some zero => match smallT P el && Nat.beq zero.length z with
        | true => ⟨fun _ e h => makeSliceA z zero ((cget l).get e) ((cget c).get e) h⟩
        | false => no 80
      | _, _ => no 80
    | none => no 81
  | .slice t x lo hi none => match P.underlying t with
    | some .string => ⟨fun _ e h => sliceA true 0 ((cget x).get e) (lo.map fun x => (cget x).get e) (hi.map fun x => (cget x).get e) h⟩
    | some (.slice el) => match szT P el with
      | some z => ⟨fun _ e h => sliceA false z ((cget x).get e) (lo.map fun x => (cget x).get e) (hi.map fun x => (cget x).get e) h⟩
      | none => no 82
    | some (.array n el) => match szT P el with
      | some z => ⟨fun _ e h => sliceArrA n z ((cget x).get e) (lo.map fun x => (cget x).get e) (hi.map fun x => (cget x).get e) h⟩
      | none => no 163
    | _ => no 83
  | .slice t x lo (some hi) (some mx) => match P.underlying t with
    | some (.slice el) => match szT P el with
      | some z => ⟨fun _ e h => slice3A z ((cget x).get e) (lo.map fun x => (cget x).get e) ((cget hi).get e) ((cget mx).get e) h⟩
      | none => no 174
    | _ => no 175
  | .fieldAddr t x i => match fieldT P t i with
    | some f => match szT P f.type with
      | some (_ + 1) => ⟨fun _ e h => fieldAddrA f.offset ((cget x).get e) h⟩
      | _ => no 84
    | none => no 85
  | .field t x i => match fieldT P t i with
    | some f => match rowT P f.type with
      | some r => ⟨fun _ e h => fieldA f.offset r ((cget x).get e) h⟩
      | none => no 86
    | none => no 87
  | .indexAddr t x i => match elemT P t with
    | some el => match szT P el with
      | some z => ⟨fun _ e h => indexAddrA z ((cget x).get e) ((cget i).get e) h⟩
      | none => no 88
    | none => match P.underlying t with
      | some (.array n el) => match szT P el with
        | some z => ⟨fun _ e h => indexAddrArrA n z ((cget x).get e) ((cget i).get e) h⟩
        | none => no 166
      | _ => no 89
  | .index t x i => match P.underlying t with
    | some .string => ⟨fun _ e h => indexStrA ((cget x).get e) ((cget i).get e) h⟩
    | some (.array n el) => match szT P el, rowT P el with
      | some z, some r => ⟨fun _ e h => indexArrA r n z ((cget x).get e) ((cget i).get e) h⟩
      | _, _ => no 165
    | _ => no 120
  | .lookup t x k ok => match P.underlying t with
    | some (.map kt el) => match zeroT P el, kdT P kt with
      | some z, some kd => ⟨fun _ e h => lookupA kd z ok ((cget x).get e) ((cget k).get e) h⟩
      | some z, none => match deepT P kt with
        | some ks => ⟨fun _ e h => lookupDA ks z ok ((cget x).get e) ((cget k).get e) h⟩
        | none => no 90
      | _, _ => no 90
    | _ => no 91
  | .mapUpdate t m k v | .insert t m k v => match P.underlying t with
    | some (.map kt _) => match kdT P kt with
      | some kd => ⟨fun _ e h => mapUpdateA kd ((cget m).get e) ((cget k).get e) ((cget v).get e) h⟩
      | none => match deepT P kt with
        | some ks => ⟨fun _ e h => mapUpdateDA ks ((cget m).get e) ((cget k).get e) ((cget v).get e) h⟩
        | none => no 123
    | _ => no 124
  | .extract x i => ⟨fun _ e h => extractA i ((cget x).get e) h⟩
  | .call c => ccall P c
  | _ => no 97

def okOps (l : List Operand) : Bool := l.all okOp

/-- an operation whose operands are ours -/
def copK (P : Program) (o : Op) : OC := match okOps o.operands.toList with
  | true => cop P o
  | false => no 120

def okDst (N : Nat) : Option Nat → Bool
  | some d => Nat.blt d N && Nat.blt d 1024
  | none => true

def goO (s : AV → E → E) (r : O) (e : E) (k : E → H → R) : R := match r with
  | .ok v h => k (s v e) h
  | .no w => .fail w

def guardC (v : AV) (want : Bool) (yes nay : Unit → R) : R := match v with
  | .bool true => match want with
    | true => yes ()
    | false => nay ()
  | .bool false => match want with
    | true => nay ()
    | false => yes ()
  | .tup .nil => nay ()
  | _ => .fail 100

/-- the operations of a region, one behind the other -/
def cops (P : Program) (N : Nat) (ops : Array Oper) : List Oper → C
  | [] => ⟨fun _ e h => .norm e h⟩
  | o :: l => match okDst N o.dst with
    | true => match o.guard with
      | none => ⟨fun ih e h => goO (csetO o.dst).set ((copK P o.op).run ih e h) e ((cops P N ops l).run ih)⟩
      | some (j, want) => match ((ops[j]?).bind (·.dst)) with
        | some d => match Nat.blt d 1024 with
          | true => ⟨fun ih e h => guardC ((cgetT d).get e) want (fun _ => goO (csetO o.dst).set ((copK P o.op).run ih e h) e ((cops P N ops l).run ih)) (fun _ => (cops P N ops l).run ih ((csetO o.dst).set (.tup .nil) e) h)⟩
          | false => ⟨fun _ _ _ => .fail 105⟩
        | none => ⟨fun _ _ _ => .fail 101⟩
    | false => ⟨fun _ _ _ => .fail 106⟩

def seqR (r : R) (k : E → H → R) : R := match r with
  | .norm e h => k e h
  | .exit i e h => .exit i e h
  | .ret e h => .ret e h
  | .fail w => .fail w

def blockR (id : Nat) (r : R) : R := match r with
  | .exit i e h => match Nat.beq i id with
    | true => .norm e h
    | false => .exit i e h
  | .norm e h => .norm e h
  | .ret e h => .ret e h
  | .fail w => .fail w

def condR (v : AV) (a b : Unit → R) : R := match v with
  | .bool true => a ()
  | .bool false => b ()
  | _ => .fail 102

def loopR (f : E → H → R) : Nat → E → H → R
  | 0, _, _ => .fail 103
  | n + 1, e, h => seqR (f e h) (loopR f n)

/-! ### a region that draws its order -/

/-- which kind an operation is of: 0 it hangs on its operands alone, 1 it reads memory, 2 it makes memory, 3 it may do anything -/
def kindOp : Op → Nat
  | .move _ | .assign _ | .pick _ _ _ | .build _ _ | .nilCheck _ | .unOp _ _ _ | .makeFunc _ _ _ | .slice _ _ _ _ _ | .fieldAddr _ _ _ | .field _ _ _ | .indexAddr _ _ _ | .index _ _ _ | .extract _ _ => 0
  | .convert _ _ _ | .binOp _ _ _ _ _ | .load _ _ | .lookup _ _ _ _ => 1
  | .alloc _ | .box _ _ | .buildSlice _ _ _ | .makeMap _ _ | .makeSlice _ _ _ => 2
  | .call c => match c.callee with
    | .builtin .len => 0
    | .builtin .max => 0
    | _ => 3
  | _ => 3

/-- whom an operation waits for -/
def edges (o : Oper) : List Nat := (o.after.toList.filter (Region.binds .any)).map (·.on)

def ancM (acc : List Nat) (o : Oper) : Nat := (edges o).foldl (fun m e => Nat.lor (Nat.lor m (Nat.pow 2 e)) (acc.getD e 0)) 0

/-- for each, a number whose bits tell all that come ahead of it -/
def ancs : List Oper → List Nat → List Nat
  | [], acc => acc
  | o :: l, acc => ancs l (acc ++ [ancM acc o])

def isAnc (A : List Nat) (j i : Nat) : Bool := Nat.testBit (A.getD i 0) j

/-- each waits for those ahead of it alone -/
def edgesOk : Nat → List Oper → Bool
  | _, [] => true
  | i, o :: l => (edges o).all (fun e => Nat.blt e i) && edgesOk (i + 1) l

/-- the places that an operation reads -/
def looks (ops : Array Oper) (o : Oper) : List Nat := o.looksAt ops

/-- no two write one place; who reads a place that another one writes comes ahead of it, or behind it -/
def slotsOk (ops : Array Oper) (A : List Nat) : Bool :=
  (List.range ops.size).all fun i => (List.range ops.size).all fun j => Nat.beq i j || (match ops[i]?, ops[j]? with
    | some oi, some oj => match oj.dst with
      | some d => (oi.dst != some d) && (!(looks ops oi).contains d || (match Nat.blt j i with
        | true => isAnc A j i
        | false => isAnc A i j))
      | none => true
    | _, _ => false)

/-- those that may do anything come in a row -/
def effsOk (ops : Array Oper) (A : List Nat) : Bool :=
  (List.range ops.size).all fun i => (List.range ops.size).all fun j => (match ops[i]?, ops[j]? with
    | some oi, some oj => !(Nat.blt i j && Nat.beq (kindOp oi.op) 3 && Nat.beq (kindOp oj.op) 3) || isAnc A i j
    | _, _ => false)

/-- may a reader, number i, come up while all up to m, of those that may do anything, have? -/
def backNeed (ops : List Oper) (A : List Nat) (i m : Nat) : Bool := !((ops.zipIdx).any fun x => Nat.ble m x.2 && Nat.blt x.2 i && Nat.beq (kindOp x.1.op) 3 && isAnc A x.2 i)
/-- may it come up behind number j? -/
def fwdNeed (ops : List Oper) (A : List Nat) (i j : Nat) : Bool := !((ops.zipIdx).any fun x => Nat.blt i x.2 && Nat.ble x.2 j && Nat.beq (kindOp x.1.op) 3 && isAnc A i x.2)
/-- is what number j made in memory behind number i? -/
def mergedB (ops : List Oper) (A : List Nat) (i j : Nat) : Bool := (ops.zipIdx).any fun x => Nat.ble x.2 i && Nat.beq (kindOp x.1.op) 3 && isAnc A j x.2

def eqAV : AV → AV → Bool
  | .int k n, .int j m => Nat.beq (kindN k) (kindN j) && eqI n m
  | .bool a, .bool b => (match a, b with
    | true, b => b
    | false, b => not b)
  | .str l a, .str m b => Nat.beq l m && Nat.beq a b
  | .nilp, .nilp => true
  | .ptr i a, .ptr j b => Nat.beq i j && Nat.beq a b
  | .nils, .nils => true
  | .sl i a l z x, .sl j b m y u => Nat.beq i j && Nat.beq a b && Nat.beq l m && Nat.beq z y && (match x, u with
    | true, b => b
    | false, b => not b)
  | .slen a, .slen b => Nat.beq a b
  | .nilm, .nilm => true
  | .map a, .map b => Nat.beq a b
  | .nilf, .nilf => true
  | .nili, .nili => true
  | .fn f a b, .fn g c d => Nat.beq f g && eqAV a c && eqAV b d
  | .ifc i a, .ifc j b => Nat.beq i j && eqAV a b
  | .agg a, .agg b => eqAV a b
  | .tup a, .tup b => eqAV a b
  | .nil, .nil => true
  | .cons a b, .cons c d => eqAV a c && eqAV b d
  | _, _ => false

/-- a reader that looks on -/
structure Watch where
  i : Nat
  look : H → O
  val : AV

structure DS where
  e : E
  h : H
  snaps : List (Nat × H)
  pend : List (Nat × AObj)
  watch : List Watch

inductive DR where
  | ok (s : DS)
  | fail (why : Nat)

def sameO (r : O) (v : AV) : Bool := match r with
  | .ok u _ => eqAV u v
  | .no _ => false

/-- what was made ahead of an operation, laid into memory; the rest -/
def mergeP (A : List Nat) (base i : Nat) : List (Nat × AObj) → Tr AObj → Tr AObj × List (Nat × AObj)
  | [], t => (t, [])
  | (j, o) :: l, t => match mergeP A base i l t with
    | (t, r) => match isAnc A j i with
      | true => (t.set (some o) (Nat.add base j), r)
      | false => (t, (j, o) :: r)

def mergeAll (base : Nat) : List (Nat × AObj) → Tr AObj → Tr AObj
  | [], t => t
  | (j, o) :: l, t => (mergeAll base l t).set (some o) (Nat.add base j)

/-- what was made ahead of a reader, and is not in memory yet, goes into it behind that reader alone -/
def pendOk (ops : List Oper) (A : List Nat) (i : Nat) : List (Nat × AObj) → Bool
  | [] => true
  | (j, _) :: l => (!isAnc A j i || (ops.zipIdx).all fun x => !(Nat.blt i x.2 && Nat.beq (kindOp x.1.op) 3 && isAnc A j x.2) || isAnc A i x.2) && pendOk ops A i l

/-- an operation that makes memory: the value, the block -/
def allocA (r : H → O) (id : Nat) (objs : Tr AObj) : Option (AV × AObj) := match r ⟨objs, id⟩ with
  | .ok v h => match h.objs.get id with
    | some o => some (v, o)
    | none => none
  | .no _ => none

def goD (r : DR) (k : DS → DR) : DR := match r with
  | .ok s => k s
  | .fail w => .fail w

/-- is it carried out? -/
def wantedA (ops : Array Oper) (o : Oper) (e : E) : Option Bool := match o.guard with
  | none => some true
  | some (j, want) => match (ops[j]?).bind (·.dst) with
    | some d => match Nat.blt d 1024 with
      | true => match (cgetT d).get e with
        | .bool true => some want
        | .bool false => some (not want)
        | .tup .nil => some false
        | _ => none
      | false => none
    | none => none

/-- whoever may do anything is through: memory, what was made meanwhile is not in it, all that look on see the same -/
def effD (ops : Array Oper) (A : List Nat) (base i : Nat) (rest : List (Nat × AObj)) (s : DS) (e : E) (h : H) : DR :=
  match (ops.toList.zipIdx).all fun x => !Nat.beq (kindOp x.1.op) 2 || mergedB ops.toList A i x.2 || (h.objs.get (Nat.add base x.2)).isNone with
  | true => match s.watch.all fun x => !fwdNeed ops.toList A x.i i || sameO (x.look h) x.val with
    | true => .ok ⟨e, h, (i + 1, h) :: s.snaps, rest, s.watch⟩
    | false => .fail 132
  | false => .fail 136

def dstep (P : Program) (N : Nat) (ops : Array Oper) (A : List Nat) (base : Nat) (ih : CF) (i : Nat) (o : Oper) (s : DS) : DR := match okDst N o.dst, wantedA ops o s.e with
  | true, some true => match kindOp o.op with
    | 0 => match (copK P o.op).run ih s.e ⟨.nil, 0⟩ with
      | .ok v _ => .ok ⟨(csetO o.dst).set v s.e, s.h, s.snaps, s.pend, s.watch⟩
      | .no w => .fail w
    | 1 => match (copK P o.op).run ih s.e ⟨(mergeP A base i s.pend s.h.objs).1, s.h.next⟩ with
      | .ok v _ => match pendOk ops.toList A i s.pend && s.snaps.tail.all fun x => !backNeed ops.toList A i x.1 || sameO ((copK P o.op).run ih s.e ⟨(mergeP A base i s.pend x.2.objs).1, x.2.next⟩) v with
        | true => .ok ⟨(csetO o.dst).set v s.e, s.h, s.snaps, s.pend, ⟨i, fun h => (copK P o.op).run ih s.e ⟨(mergeP A base i s.pend h.objs).1, h.next⟩, v⟩ :: s.watch⟩
        | false => .fail 130
      | .no w => .fail w
    | 2 => match allocA ((copK P o.op).run ih s.e) (Nat.add base i) s.h.objs with
      | some (v, ob) => .ok ⟨(csetO o.dst).set v s.e, s.h, s.snaps, (i, ob) :: s.pend, s.watch⟩
      | none => .fail 131
    | _ => match mergeP A base i s.pend s.h.objs with
      | (t, rest) => match (copK P o.op).run ih s.e ⟨t, s.h.next⟩ with
        | .ok v h => effD ops A base i rest s ((csetO o.dst).set v s.e) h
        | .no w => .fail w
  | true, some false => match kindOp o.op with
    | 3 => match mergeP A base i s.pend s.h.objs with
      | (t, rest) => effD ops A base i rest s ((csetO o.dst).set (.tup .nil) s.e) ⟨t, s.h.next⟩
    | _ => .ok ⟨(csetO o.dst).set (.tup .nil) s.e, s.h, s.snaps, s.pend, s.watch⟩
  | _, _ => .fail 134

def dgo (P : Program) (N : Nat) (ops : Array Oper) (A : List Nat) (base : Nat) (ih : CF) : Nat → List Oper → DS → DR
  | _, [], s => .ok s
  | i, o :: l, s => goD (dstep P N ops A base ih i o s) (dgo P N ops A base ih (i + 1) l)

structure DI where
  ok : Bool
  A : List Nat

def dinfo (ops : Array Oper) : DI := match ancs ops.toList [] with
  | A => ⟨edgesOk 0 ops.toList && slotsOk ops A && effsOk ops A && Region.noSelect ops, A⟩

def dops1 (P : Program) (N : Nat) (ops : Array Oper) : C := match dinfo ops with
  | ⟨true, A⟩ => ⟨fun ih e h => match dgo P N ops A h.next ih 0 ops.toList ⟨e, ⟨h.objs, Nat.add h.next ops.size⟩, [(0, ⟨h.objs, Nat.add h.next ops.size⟩)], [], []⟩ with
    | .ok s => .norm s.e ⟨mergeAll h.next s.pend s.h.objs, s.h.next⟩
    | .fail w => .fail w⟩
  | ⟨false, _⟩ => ⟨fun _ _ _ => .fail 135⟩

/-! ### two that nothing orders -/

def eqOA : Option AV → Option AV → Bool
  | none, none => true
  | some a, some b => eqAV a b
  | _, _ => false

def eqTA : Tr AV → Tr AV → Bool
  | .nil, .nil => true
  | .full a, .full b => eqAV a b
  | .node v a b c d, .node v' a' b' c' d' => eqOA v v' && eqTA a a' && eqTA b b' && eqTA c c' && eqTA d d'
  | _, _ => false

def eqB (a b : Bool) : Bool := match a with
  | true => b
  | false => not b

def eqNs : List Nat → List Nat → Bool
  | [], [] => true
  | a :: l, b :: m => Nat.beq a b && eqNs l m
  | _, _ => false

def eqObj : AObj → AObj → Bool
  | .cells c n o l, .cells c' n' o' l' => Nat.beq n n' && eqB o o' && eqNs l l' && eqTA c c'
  | .map a, .map b => eqAV a b
  | _, _ => false

/-- none but these two are unordered -/
def effsBut (ops : Array Oper) (A : List Nat) (i j : Nat) : Bool :=
  (List.range ops.size).all fun a => (List.range ops.size).all fun b => (match ops[a]?, ops[b]? with
    | some oa, some ob => !(Nat.blt a b && Nat.beq (kindOp oa.op) 3 && Nat.beq (kindOp ob.op) 3) || isAnc A a b || (Nat.beq a i && Nat.beq b j)
    | _, _ => false)

/-- the first two that nothing orders -/
def pairOf (ops : Array Oper) (A : List Nat) : Option (Nat × Nat) :=
  (List.range ops.size).findSome? fun a => (List.range ops.size).findSome? fun b => (match ops[a]?, ops[b]? with
    | some oa, some ob => match Nat.blt a b && Nat.beq (kindOp oa.op) 3 && Nat.beq (kindOp ob.op) 3 && !isAnc A a b with
      | true => some (a, b)
      | false => none
    | _, _ => none)

/-- where it writes -/
def storeTo : Op → Option Operand
  | .store _ x _ => some x
  | _ => none

def pairOk (ops : Array Oper) (A : List Nat) (i j : Nat) (oi oj : Oper) : Bool :=
  edgesOk 0 ops.toList && slotsOk ops A && effsBut ops A i j && Nat.blt i j && Nat.beq (kindOp oi.op) 3 && Nat.beq (kindOp oj.op) 3 && oi.guard.isNone && oj.guard.isNone && oi.dst.isNone && oj.dst.isNone && ops.toList.zipIdx.all (fun x => !Nat.beq (kindOp x.1.op) 2 || (isAnc A x.2 j && ops.toList.zipIdx.any fun y => Nat.blt y.2 i && Nat.beq (kindOp y.1.op) 3 && isAnc A x.2 y.2)) && ops.toList.zipIdx.all (fun x => !(Nat.blt i x.2 && Nat.blt x.2 j && Nat.beq (kindOp x.1.op) 3)) && Region.noSelect ops

/-- cells that are nobody's beginning -/
def noAnc (h : H) (id : Nat) : Bool := match h.objs.get id with
  | some (.cells _ _ _ []) => true
  | _ => false

def sameObj (h h' : H) (id : Nat) : Bool := match h.objs.get id, h'.objs.get id with
  | some a, some b => eqObj a b
  | _, _ => false

/-- written the other way about it is the same, and whoever looks on sees the same -/
def swapOk (P : Program) (A : List Nat) (ih : CF) (i j : Nat) (oi oj : Oper) (si sj s : DS) : Bool := match storeTo oi.op, storeTo oj.op with
  | some x, some y => match (cget x).get si.e, (cget y).get sj.e with
    | .ptr a _, .ptr b _ => match (copK P oj.op).run ih sj.e si.h with
      | .ok _ hA => match (copK P oi.op).run ih si.e hA, (copK P oj.op).run ih sj.e sj.h with
        | .ok _ h3, .ok _ h2 => noAnc si.h a && noAnc sj.h b && noAnc si.h b && noAnc hA a && sameObj h2 h3 a && sameObj h2 h3 b && s.watch.all fun x => isAnc A x.i j || isAnc A i x.i || sameO (x.look hA) x.val
        | _, _ => false
      | .no _ => false
    | _, _ => false
  | _, _ => false

def dpair (P : Program) (N : Nat) (ops : Array Oper) (A : List Nat) (i j : Nat) (oi oj : Oper) (ih : CF) (e : E) (h : H) : R :=
  match dgo P N ops A h.next ih 0 (ops.toList.take i) ⟨e, ⟨h.objs, Nat.add h.next ops.size⟩, [(0, ⟨h.objs, Nat.add h.next ops.size⟩)], [], []⟩ with
  | .fail w => .fail w
  | .ok si => match dgo P N ops A h.next ih i (ops.toList.drop i) si, dgo P N ops A h.next ih i ((ops.toList.drop i).take (Nat.sub j i)) si with
    | .ok s, .ok sj => match swapOk P A ih i j oi oj si sj s with
      | true => .norm s.e ⟨mergeAll h.next s.pend s.h.objs, s.h.next⟩
      | false => .fail 137
    | .fail w, _ => .fail w
    | _, _ => .fail 138

def dops2 (P : Program) (N : Nat) (ops : Array Oper) (A : List Nat) : C := match pairOf ops A with
  | some (i, j) => match ops.toList[i]?, ops.toList[j]? with
    | some oi, some oj => match pairOk ops A i j oi oj with
      | true => ⟨fun ih e h => dpair P N ops A i j oi oj ih e h⟩
      | false => ⟨fun _ _ _ => .fail 135⟩
    | _, _ => ⟨fun _ _ _ => .fail 139⟩
  | none => ⟨fun _ _ _ => .fail 140⟩

def dops (P : Program) (N : Nat) (ops : Array Oper) : C := match dinfo ops with
  | ⟨true, _⟩ => dops1 P N ops
  | ⟨false, A⟩ => dops2 P N ops A

/-- code -/
def comp (P : Program) (N : Nat) : Code → C
  | .skip => ⟨fun _ e h => .norm e h⟩
  | .label _ => ⟨fun _ e h => .norm e h⟩
  | .region _ ops false => cops P N ops ops.toList
  | .region _ ops true => dops P N ops
  | .seq a b => ⟨fun ih e h => seqR ((comp P N a).run ih e h) ((comp P N b).run ih)⟩
  | .cond c a b => match okOp c with
    | true => ⟨fun ih e h => condR ((cget c).get e) (fun _ => (comp P N a).run ih e h) (fun _ => (comp P N b).run ih e h)⟩
    | false => ⟨fun _ _ _ => .fail 107⟩
  | .block id c => ⟨fun ih e h => blockR id ((comp P N c).run ih e h)⟩
  | .loop c => ⟨fun ih e h => loopR ((comp P N c).run ih) 100000 e h⟩
  | .exit id => ⟨fun _ e h => .exit id e h⟩
  | .ret => ⟨fun _ e h => .ret e h⟩
  | _ => ⟨fun _ _ _ => .fail 104⟩

structure RS where get : E → H → Option AV

def cres (P : Program) : List ResultVar → RS
  | [] => ⟨fun _ _ => some .nil⟩
  | .tmp t :: l => match Nat.blt t 1024 with
    | true => ⟨fun e h => match (cres P l).get e h with
      | some l => some (.cons ((cgetT t).get e) l)
      | none => none⟩
    | false => ⟨fun _ _ => none⟩
  | .cell a t :: l => match rowT P t, Nat.blt a 1024 with
    | some row, true => ⟨fun e h => match loadA row ((cgetT a).get e) h, (cres P l).get e h with
      | .ok v _, some l => some (.cons v l)
      | _, _ => none⟩
    | _, _ => ⟨fun _ _ => none⟩

def u4 {α : Type} (a : α) : P4 α := ⟨a, a, a, a⟩
def e0 : E := u4 (u4 (u4 (u4 (u4 (.tup .nil)))))

def argsE : AV → Nat → E → Option E
  | .cons a l, k, e => match Nat.blt k 1024 with
    | true => argsE l (Nat.succ k) ((cset k).set a e)
    | false => none
  | .nil, _, e => some e
  | _, _, _ => none

structure FI where run : CF → AV → H → O

def oneR (l : AV) : AV := match l with
  | .cons a .nil => a
  | l => .tup l

def endR (res : E → H → Option AV) (r : R) : O := match r with
  | .norm e h => match res e h with
    | some l => .ok (oneR l) h
    | none => .no 110
  | .ret e h => match res e h with
    | some l => .ok (oneR l) h
    | none => .no 111
  | .exit _ _ _ => .no 112
  | .fail w => .no w

def finfo (P : Program) (f : FuncId) : FI := match P.funcs[f]? with
  | some fn => match fn.body with
    | some c => ⟨fun ih args h => match argsE args 0 e0 with
      | some e => endR (cres P fn.results.toList).get ((comp P fn.ntmps c).run ih e h)
      | none => .no 116⟩
    | none => ⟨fun _ _ _ => .no 113⟩
  | none => ⟨fun _ _ _ => .no 114⟩

def callN (P : Program) : Nat → FuncId → AV → H → O
  | 0, _, _, _ => .no 115
  | n + 1, f, args, h => (finfo P f).run (callN P n) args h

end Go.Proofs.YtfmlgiafkbakcaaGreatDoor.Ev

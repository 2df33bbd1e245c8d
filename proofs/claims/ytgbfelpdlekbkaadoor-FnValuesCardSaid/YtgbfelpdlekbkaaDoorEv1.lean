/- The evaluator: Go's code, run over values that bear their contents. -/
import Derived.Orders
import Derived.Maps.AppendAt
import Derived.Below
import Derived.Laws.OwnMore
import Derived.Deep.Draws
import Derived.Tactics
import Derived.Laws.Cells
import Derived.Laws.CopyRow
import Derived.Laws.BytesString
import Derived.Lib.AppendStr
import Derived.Great.BuildSlice
set_option linter.unusedVariables false
set_option linter.unusedSimpArgs false
section
namespace Go.Lin

/-! ### the types of data, and what they read as -/
inductive Ty where
  | int (k : IntKind)
  | bool
  | str
  | slice (e : TypeId) (t : Ty)
  | pair (a b : Ty)
  | gval (s v : TypeId)
  deriving DecidableEq, Inhabited

/-- The one type that is nested in itself: a tree. -/
structure GVal where
  kind : Int
  text : ByteArray
  num : Int
  keys : List ByteArray
  kids : List GVal

@[reducible] def Ty.D : Ty → Type
  | .int _ => Int
  | .bool => Bool
  | .str => ByteArray
  | .slice _ t => List t.D
  | .pair a b => a.D × b.D
  | .gval _ _ => GVal

def Ty.size : Ty → Nat
  | .pair a b => a.size + b.size
  | .gval _ _ => 5
  | _ => 1

def GVal.zero : GVal := ⟨0, ⟨#[]⟩, 0, [], []⟩

def Ty.dflt : (t : Ty) → t.D
  | .int _ => (0 : Int)
  | .bool => false
  | .str => (⟨#[]⟩ : ByteArray)
  | .slice _ _ => []
  | .pair a b => (a.dflt, b.dflt)
  | .gval _ _ => GVal.zero

/-! ### values and boxes -/
inductive V where
  | int (k : IntKind) (n : Int)
  | bool (b : Bool)
  | str (s : ByteArray)
  | slc (e : TypeId) (t : Ty) (l : List t.D)
  | nils
  | own (b : Nat)
  | agg (cs : List V)
  | tup (vs : List V)
  | ptr (b off : Nat)
  | ep (b : Nat) (i : Int) (off : Nat)
  | sp (t : Ty) (x : t.D) (off : Nat)
  | fn (f : FuncId) (caps : List V)
  | undef
  | junk
  deriving Inhabited

inductive Box where
  | cells (t : TypeId) (cs : List V)
  | row (e : TypeId) (t : Ty) (l : List t.D)
  | frow (e : TypeId) (t : Ty) (l : List t.D)
  | dead

structure St where
  slots : List V
  boxes : List Box

/-- What kind of type a number names. -/
inductive TK where
  | int (k : IntKind)
  | bool
  | str
  | slice (e : TypeId)
  | struct (offs : List Nat) (tys : List TypeId)
  | other

/-- What the evaluator knows of a type. -/
structure TI where
  kind : TK
  size : Nat
  bytes : Nat
  ty : Option Ty

def TI.none_ : TI := ⟨.other, 0, 0, none⟩
def TI.agg (i : TI) : Bool := match i.kind with | .struct _ _ => true | _ => false

/-- The types' table, by their numbers. -/
abbrev TT := List (Nat × TI)
def TT.at (tt : TT) (t : Nat) : TI := match tt with
  | [] => TI.none_
  | (n, i) :: r => bif n == t then i else TT.at r t

/-! ### reading and writing parts -/
def unpack : (t : Ty) → t.D → List V
  | .int k, n => [.int k n]
  | .bool, b => [.bool b]
  | .str, s => [.str s]
  | .slice e t, l => [.slc e t l]
  | .pair a b, x => unpack a x.1 ++ unpack b x.2
  | .gval s v, x => [.int .i64 (GVal.kind x), .str (GVal.text x), .int .i64 (GVal.num x), .slc s .str (GVal.keys x), .slc v (.gval s v) (GVal.kids x)]

def asSlc (e : TypeId) (t : Ty) : V → Option (List t.D)
  | .slc e' t' l => if h : e' = e ∧ t' = t then some (h.2 ▸ l) else none
  | .nils => some []
  | _ => none

def packG (s v : TypeId) : List V → Option (GVal × List V)
  | .int .i64 k :: .str t :: .int .i64 n :: ks :: vs :: r => (asSlc s .str ks).bind fun keys => (asSlc v (.gval s v) vs).bind fun kids => some ((⟨k, t, n, keys, kids⟩ : GVal), r)
  | _ => none
/-- A typed value of the first cells; and the cells behind. -/
def pack : (t : Ty) → List V → Option (t.D × List V)
  | .int k, .int k' n :: r => bif decide (k' = k) then some (n, r) else none
  | .bool, .bool b :: r => some (b, r)
  | .str, .str s :: r => some (s, r)
  | .slice e t, v :: r => (asSlc e t v).bind fun l => some (l, r)
  | .pair a b, cs => (pack a cs).bind fun p => (pack b p.2).bind fun q => some ((p.1, q.1), q.2)
  | .gval s v, cs => packG s v cs
  | _, _ => none

def pack1 (t : Ty) (cs : List V) : Option t.D := (pack t cs).bind fun p => match p.2 with | [] => some p.1 | _ => none

/-- Is it known, and one cell? -/
def V.solid (bs : List Box) : V → Bool
  | .own b => match bs.getD b .dead with
    | .row .. => true
    | .frow .. => true
    | _ => false
  | .ep .. => false
  | .agg _ => false
  | .tup _ => false
  | .fn _ _ => false
  | .undef => false
  | .junk => false
  | _ => true

def V.cells : V → List V
  | .agg cs => cs
  | v => [v]

def zeros : Ty → List V
  | .int k => [.int k 0]
  | .bool => [.bool false]
  | .str => [.str ⟨#[]⟩]
  | .slice _ _ => [.nils]
  | .pair a b => zeros a ++ zeros b
  | .gval _ _ => [.int .i64 0, .str ⟨#[]⟩, .int .i64 0, .nils, .nils]

def part (cs : List V) (off n : Nat) : Option (List V) := bif Nat.ble (off + n) cs.length then some ((cs.drop off).take n) else none
def splice (cs : List V) (off : Nat) (vs : List V) : Option (List V) := bif Nat.ble (off + vs.length) cs.length then some (cs.take off ++ vs ++ cs.drop (off + vs.length)) else none

def St.box (σ : St) (b : Nat) : Box := σ.boxes.getD b .dead
def St.setBox (σ : St) (b : Nat) (x : Box) : St := ⟨σ.slots, σ.boxes.set b x⟩
def St.newBox (σ : St) (x : Box) : St := ⟨σ.slots, σ.boxes ++ [x]⟩
def St.put (σ : St) (dst : Option Nat) (v : V) : St := match dst with
  | some d => ⟨σ.slots.set d v, σ.boxes⟩
  | none => σ

def ofConst : Value → V
  | .int k n => .int k n
  | .bool b => .bool b
  | .string s => .str s
  | .slice none 0 0 => .nils
  | .tuple vs => match vs.toList with
    | [] => .undef
    | _ => .junk
  | _ => .junk

def St.ev (σ : St) : Operand → V
  | .tmp t => σ.slots.getD t .undef
  | .const v => ofConst v
  | .func f => .fn f []
  | .global _ => .junk

/-- The element of a row that i names. -/
def elt {t : Ty} (l : List t.D) (i : Int) : t.D := l.getD i.toNat t.dflt
def put_ {t : Ty} (l : List t.D) (i : Int) (x : t.D) : List t.D := l.set i.toNat x

/-- The cells that a pointer leads to. -/
def St.look (σ : St) (p : V) (n : Nat) : Option (List V) := match p with
  | .ptr b off => match σ.box b with
    | .cells _ cs => part cs off n
    | _ => none
  | .sp t x off => part (unpack t x) off n
  | .ep b i off => match σ.box b with
    | .row _ t l => part (unpack t (elt l i)) off n
    | .frow _ t l => part (unpack t (elt l i)) off n
    | _ => none
  | _ => none

def St.store (σ : St) (p : V) (vs : List V) : Option St := match p with
  | .ptr b off => match σ.box b with
    | .cells t cs => (splice cs off vs).bind fun cs' => some (σ.setBox b (.cells t cs'))
    | _ => none
  | .ep b i off => match σ.box b with
    | .row e t l => (splice (unpack t (elt l i)) off vs).bind fun cs => (pack1 t cs).bind fun x => some (σ.setBox b (.row e t (put_ l i x)))
    | _ => none
  | _ => none

/-- A row of the call's own that is handed on is written no more. -/
def frz (bs : List Box) : V → V × List Box
  | .own b => match bs.getD b .dead with
    | .row e t l => (.slc e t l, bs.set b (.frow e t l))
    | .frow e t l => (.slc e t l, bs)
    | _ => (.junk, bs)
  | v => (v, bs)
def frzs : List Box → List V → List V × List Box
  | bs, [] => ([], bs)
  | bs, v :: r => match frz bs v with
    | (v', bs') => match frzs bs' r with
      | (r', bs'') => (v' :: r', bs'')
def frzV (bs : List Box) : V → V × List Box
  | .agg cs => match frzs bs cs with | (cs', bs') => (.agg cs', bs')
  | v => frz bs v

/-- The elements that a slice's value shows. -/
def St.slice (σ : St) (e : TypeId) (t : Ty) : V → Option (List t.D)
  | .own b => match σ.box b with
    | .row e' t' l => if h : e' = e ∧ t' = t then some (h.2 ▸ l) else none
    | .frow e' t' l => if h : e' = e ∧ t' = t then some (h.2 ▸ l) else none
    | _ => none
  | v => asSlc e t v

/-- How long a slice or a string is. -/
def St.len (σ : St) : V → Option Nat
  | .slc _ _ l => some l.length
  | .nils => some 0
  | .str s => some s.size
  | .own b => match σ.box b with
    | .row _ _ l => some l.length
    | .frow _ _ l => some l.length
    | _ => none
  | _ => none

def bt (s : ByteArray) (i : Int) : Int := if h : i.toNat < s.size then ((s[i.toNat]'h).toNat : Int) else 0
def bytesOf (s : ByteArray) : List Int := s.data.toList.map fun b => (b.toNat : Int)
def ofBytes (l : List Int) : ByteArray := ⟨(l.map fun n => UInt8.ofNat n.toNat).toArray⟩

/-- What is appended: a slice's elements, or a string's bytes. -/
def St.source (σ : St) (e : TypeId) (ty : Ty) : V → Option (List ty.D)
  | .str b => if h : ty = Ty.int .u8 then some (h ▸ bytesOf b) else none
  | v => σ.slice e ty v

section
variable {ρ : Type}

def chk (b : Bool) (k : Option ρ) : Option ρ := cond b k none

def iand (k : IntKind) (x y : Int) : Int := k.wrap (BitVec.ofInt k.bits x &&& BitVec.ofInt k.bits y).toNat
def ior (k : IntKind) (x y : Int) : Int := k.wrap (BitVec.ofInt k.bits x ||| BitVec.ofInt k.bits y).toNat
def ixor (k : IntKind) (x y : Int) : Int := k.wrap (BitVec.ofInt k.bits x ^^^ BitVec.ofInt k.bits y).toNat
def ishl (k : IntKind) (x y : Int) : Int := k.wrap (x * 2 ^ min y.toNat k.bits)
def ishr (k : IntKind) (x y : Int) : Int := x.fdiv (2 ^ min y.toNat k.bits)
def imin (x y : Int) : Int := if y < x then y else x
def imax (x y : Int) : Int := if y > x then y else x

def arith (op : BinOp) (k : IntKind) (x y : Int) (K : V → Option ρ) : Option ρ := match op with
  | .add => K (.int k (k.wrap (x + y)))
  | .sub => K (.int k (k.wrap (x - y)))
  | .mul => K (.int k (k.wrap (x * y)))
  | .quo => chk (!(y == 0)) (K (.int k (k.wrap (x.tdiv y))))
  | .rem => chk (!(y == 0)) (K (.int k (x.tmod y)))
  | .and => K (.int k (iand k x y))
  | .or => K (.int k (ior k x y))
  | .xor => K (.int k (ixor k x y))
  | .eql => K (.bool (x == y))
  | .neq => K (.bool (x != y))
  | .lss => K (.bool (decide (x < y)))
  | .leq => K (.bool (decide (x ≤ y)))
  | .gtr => K (.bool (decide (y < x)))
  | .geq => K (.bool (decide (y ≤ x)))
  | _ => none
def shift (op : BinOp) (k : IntKind) (x y : Int) (K : V → Option ρ) : Option ρ := match op with
  | .shl => chk (decide (0 ≤ y)) (K (.int k (ishl k x y)))
  | .shr => chk (decide (0 ≤ y)) (K (.int k (ishr k x y)))
  | _ => none
def seq_ (x y : ByteArray) : Bool := x.toList == y.toList
def slt (x y : ByteArray) : Bool := Op.bytesLess x.toList y.toList
def text (op : BinOp) (x y : ByteArray) (K : V → Option ρ) : Option ρ := match op with
  | .add => chk (decide (x.size + y.size ≤ 9223372036854775807)) (K (.str (x ++ y)))
  | .eql => K (.bool (seq_ x y))
  | .neq => K (.bool (!seq_ x y))
  | .lss => K (.bool (slt x y))
  | .leq => K (.bool (slt x y || seq_ x y))
  | .gtr => K (.bool (!(slt x y || seq_ x y)))
  | .geq => K (.bool (!slt x y))
  | _ => none
def eq1 : V → V → Option Bool
  | .int k x, .int k' y => bif decide (k = k') then some (x == y) else none
  | .bool x, .bool y => some (x == y)
  | .str x, .str y => some (seq_ x y)
  | _, _ => none
def eqs : List V → List V → Option Bool
  | [], [] => some true
  | x :: xs, y :: ys => (eq1 x y).bind fun a => (eqs xs ys).bind fun b => some (a && b)
  | _, _ => none
def binop (isBool : Bool) (op : BinOp) (x y : V) (K : V → Option ρ) : Option ρ := match op, x, y with
  | .shl, .int k a, .int _ b => shift .shl k a b K
  | .shr, .int k a, .int _ b => shift .shr k a b K
  | _, .int k a, .int k' b => bif decide (k = k') then arith op k a b K else none
  | _, .str a, .str b => text op a b K
  | .eql, .bool a, .bool b => bif isBool then K (.bool (a == b)) else none
  | .neq, .bool a, .bool b => bif isBool then K (.bool (!(a == b))) else none
  | _, _, _ => none
def unop (op : UnOp) (x : V) (K : V → Option ρ) : Option ρ := match op, x with
  | .not, .bool b => K (.bool (!b))
  | .neg, .int k n => K (.int k (k.wrap (0 - n)))
  | _, _ => none

def pickV (t : Bool) (x y : V) (K : V → Option ρ) : Option ρ := match t with
  | true => K x
  | false => K y
/-- A choice between two values of one form is one value. -/
def pick2 (t : Bool) (x y : V) (K : V → Option ρ) : Option ρ := match x, y with
  | .bool a, .bool b => K (.bool (cond t a b))
  | .int k a, .int k' b => bif decide (k = k') then K (.int k (cond t a b)) else cond t (K x) (K y)
  | _, _ => cond t (K x) (K y)

def fill (bs : List Box) (place : Nat → Option (Nat × Nat)) (cells : List V) : List (Nat × V) → Option (List V)
  | [] => some cells
  | (i, v) :: r => match place i with
    | none => none
    | some (off, n) => bif v.cells.length == n && v.cells.all (V.solid bs) then (splice cells off v.cells).bind fun c => fill bs place c r else none

def convertTo (tt : TT) (s d : TypeId) (x : V) (σ : St) (K : V → St → Option ρ) : Option ρ := match (tt.at s).kind, (tt.at d).kind, x with
  | .int _, .int k, .int _ n => K (.int k (k.wrap n)) σ
  | .int _, .str, .int _ n => K (.str (Utf8.encode n)) σ
  | .str, .str, .str s => K (.str s) σ
  | .slice e, .str, v => match (tt.at e).kind with
    | .int .u8 => (σ.slice e (.int .u8) v).bind fun l => K (.str (ofBytes l)) σ
    | _ => none
  | _, _, _ => none

/-- The places of a struct's parts: where each begins, and how long it is. -/
def placeOf (offs : List Nat) (size i : Nat) : Option (Nat × Nat) := match offs[i]?, offs[i + 1]? with
  | some a, some b => some (a, b - a)
  | some a, none => some (a, size - a)
  | _, _ => none

/-! ### ids: which boxes values lead to, and other numbers for them -/
def V.id1 : V → List Nat
  | .own b => [b]
  | .ptr b _ => [b]
  | .ep b _ _ => [b]
  | _ => []
def V.ids : V → List Nat
  | .agg cs => cs.flatMap V.id1
  | .tup vs => vs.flatMap fun v => match v with | .agg cs => cs.flatMap V.id1 | v => v.id1
  | .fn _ caps => caps.flatMap V.id1
  | v => v.id1
def Box.ids : Box → List Nat
  | .cells _ cs => cs.flatMap V.ids
  | _ => []
def addNew (l : List Nat) (n : Nat) : List Nat := bif l.contains n then l else l ++ [n]
def V.ren1 (f : Nat → Nat) : V → V
  | .own b => .own (f b)
  | .ptr b off => .ptr (f b) off
  | .ep b i off => .ep (f b) i off
  | v => v
def V.ren2 (f : Nat → Nat) : V → V
  | .agg cs => .agg (cs.map (V.ren1 f))
  | .fn g caps => .fn g (caps.map (V.ren1 f))
  | v => v.ren1 f
def V.ren (f : Nat → Nat) : V → V
  | .tup vs => .tup (vs.map (V.ren2 f))
  | v => v.ren2 f
def Box.ren (f : Nat → Nat) : Box → Box
  | .cells t cs => .cells t (cs.map (V.ren f))
  | b => b
/-- From these on, what is reached: the boxes, and the rows in their cells. -/
def reach (bs : List Box) (from_ : List Nat) : List Nat := (from_.flatMap fun b => (bs.getD b .dead).ids).foldl addNew from_
def idsOf (start : List Nat) (vs : List V) : List Nat := (vs.flatMap V.ids).foldl addNew start
def idx (l : List Nat) (b : Nat) : Nat := l.idxOf b

/-- A call's oracle: the arguments, the boxes that they lead to; behind the call: the result, those boxes, and new ones. -/
abbrev Orc (ρ : Type) := List V → List Box → (V → List Box → Option ρ) → Option ρ

/-! ### one form for what ways come to -/
inductive Md where
  | keep
  | dat (t : Ty)
  | rec_ (t : Ty)
  | own (e : TypeId) (t : Ty)
  | agg_ (l : List Md)

def normL (bs : List Box) : Md → V → Option (V × List Box)
  | .keep, v => some (v, bs)
  | .dat t, v => match frz bs v with
    | (v', bs') => bif v'.solid bs' then (pack1 t [v']).bind fun x => match unpack t x with
      | [u] => some (u, bs')
      | _ => none
      else none
  | .own e t, .nils => some (.own bs.length, bs ++ [.row e t []])
  | .own _ _, .own b => some (.own b, bs)
  | _, _ => none
def normLs (bs : List Box) : List Md → List V → Option (List V × List Box)
  | [], [] => some ([], bs)
  | md :: mds, v :: vs => (normL bs md v).bind fun p => (normLs p.2 mds vs).bind fun q => some (p.1 :: q.1, q.2)
  | _, _ => none
def normV (bs : List Box) : Md → V → Option (V × List Box)
  | .rec_ t, .agg cs => match frzs bs cs with
    | (cs', bs') => (pack1 t cs').bind fun x => some (.agg (unpack t x), bs')
  | .agg_ l, .agg cs => (normLs bs l cs).bind fun p => some (.agg p.1, p.2)
  | md, v => normL bs md v
def norms (bs : List Box) : List Md → List V → Option (List V × List Box)
  | [], [] => some ([], bs)
  | md :: mds, v :: vs => (normV bs md v).bind fun p => (norms p.2 mds vs).bind fun q => some (p.1 :: q.1, q.2)
  | _, _ => none

/-- Is it of one cell? -/
def V.one : V → Bool
  | .agg _ => false
  | .tup _ => false
  | .fn _ _ => false
  | _ => true
/-- The cells of a box become data of a type. -/
def fixBox (bs : List Box) (b : Nat) (t : Ty) : Option (List Box) := match bs.getD b .dead with
  | .cells tid cs => match frzs bs cs with
    | (cs', bs') => (pack1 t cs').bind fun x => match bs'.getD b .dead with
      | .cells tid' _ => bif tid' == tid then some (bs'.set b (.cells tid (unpack t x))) else none
      | _ => none
  | _ => none
/-- One cell of a box. -/
def fixCell (bs : List Box) (b j : Nat) (md : Md) : Option (List Box) := match bs.getD b .dead with
  | .cells _ cs => match cs[j]? with
    | some v => (normL bs md v).bind fun p => bif p.1.one then (match p.2.getD b .dead with
      | .cells tid cs' => some (p.2.set b (.cells tid (cs'.set j p.1)))
      | _ => none) else none
    | none => none
  | _ => none
def fixSlots (σ : St) : List (Nat × Md) → Option St
  | [] => some σ
  | (i, md) :: r => (normV σ.boxes md (σ.slots.getD i .undef)).bind fun p => fixSlots ⟨σ.slots.set i p.1, p.2⟩ r
def fixCells (sl : List V) (bs : List Box) : List (Nat × Nat × Md) → Option (List Box)
  | [] => some bs
  | (i, j, md) :: r => match sl.getD i .undef with
    | .ptr b 0 => (fixCell bs b j md).bind fun bs' => fixCells sl bs' r
    | _ => none
def fixBoxes (bs : List Box) : Nat → List (Option Ty) → Option (List Box)
  | _, [] => some bs
  | b, none :: r => fixBoxes bs (b + 1) r
  | b, some t :: r => (fixBox bs b t).bind fun bs' => fixBoxes bs' (b + 1) r

/-- The ids are no two alike, are boxes, and what they lead to is among them. -/
def okIds (ids : List Nat) (vs : List V) (bs : List Box) : Bool :=
  decide ids.Nodup && ((vs.flatMap V.ids).all ids.contains && ((ids.flatMap fun b => (bs.getD b .dead).ids).all ids.contains && ids.all fun b => Nat.blt b bs.length))

def back (ids : List Nat) (n : Nat) (j : Nat) : Nat := bif Nat.blt j ids.length then ids.getD j 0 else n + (j - ids.length)
def setAll : List Box → List Nat → List Box → List Box
  | bs, i :: is, x :: xs => setAll (bs.set i x) is xs
  | bs, _, _ => bs

/-- A call: what the arguments lead to is handed over by numbers of its own. -/
def callX (C : Orc ρ) (args : List V) (σ : St) (K : V → St → Option ρ) : Option ρ :=
  let ids := reach σ.boxes (idsOf [] args)
  chk (okIds ids args σ.boxes) <|
  C (args.map (V.ren (idx ids))) (ids.map fun b => (σ.box b).ren (idx ids)) fun res bs' =>
    K (res.ren (back ids σ.boxes.length)) ⟨σ.slots, setAll σ.boxes ids (bs'.map (Box.ren (back ids σ.boxes.length))) ++ (bs'.map (Box.ren (back ids σ.boxes.length))).drop ids.length⟩
def callC (C : FuncId → List Md × Orc ρ) (g : FuncId) (args : List V) (σ : St) (K : V → St → Option ρ) : Option ρ :=
  (norms σ.boxes (C g).1 args).bind fun p => callX (C g).2 p.1 ⟨σ.slots, p.2⟩ K

def lim (n bytes : Nat) : Bool := decide (n * bytes ≤ 140737488355328)

/-- What may be appended: a slice of the same type, or a string's bytes. -/
def mayAppend (tt : TT) (ts tx e : TypeId) (x : V) : Bool := match x with
  | .str _ => (match (tt.at tx).kind with | .str => true | _ => false) && (match (tt.at e).kind with | .int .u8 => true | _ => false)
  | _ => tx == ts

def appendC (tt : TT) (ts tx : TypeId) (s x : V) (σ : St) (K : V → St → Option ρ) : Option ρ := match (tt.at ts).kind with
  | .slice e => (tt.at e).ty.bind fun (ty : Ty) =>
    chk (mayAppend tt ts tx e x) <|
    (σ.source e ty x).bind fun l1 =>
    match s with
    | .nils => chk (lim l1.length (tt.at e).bytes) (K (.own σ.boxes.length) (σ.newBox (.row e ty l1)))
    | .own b => match σ.box b with
      | .row e' t l => if h : e' = e ∧ t = ty then chk (lim (l.length + l1.length) (tt.at e).bytes) (K (.own σ.boxes.length) ((σ.setBox b .dead).newBox (.row e ty ((h.2 ▸ l) ++ l1)))) else none
      | _ => none
    | _ => none
  | _ => none

def cutC (tt : TT) (tx : TypeId) (x : V) (lo hi : Option V) (σ : St) (K : V → St → Option ρ) : Option ρ :=
  (match lo with | none => some (0 : Int) | some (.int _ n) => some n | _ => none).bind fun l =>
  (σ.len x).bind fun n =>
  (match hi with | none => some (n : Int) | some (.int _ h) => some h | _ => none).bind fun h =>
  chk (decide (0 ≤ h)) <| chk (decide (h ≤ (n : Int))) <| chk (decide (0 ≤ l)) <| chk (decide (l ≤ h)) <|
  match (tt.at tx).kind, x with
  | .str, .str s => K (.str (s.extract l.toNat h.toNat)) σ
  | .slice e, .slc e' t xs => bif t.size == (tt.at e).size then K (.slc e' t ((xs.take h.toNat).drop l.toNat)) σ else none
  | .slice _, .nils => K .nils σ
  | .slice e, .own b => match lo, σ.box b with
    | none, .row e' t xs => bif t.size == (tt.at e).size then K (.own σ.boxes.length) ((σ.setBox b .dead).newBox (.row e' t (xs.take h.toNat))) else none
    | _, .row e' t xs => bif t.size == (tt.at e).size then K (.slc e' t ((xs.take h.toNat).drop l.toNat)) (σ.setBox b (.frow e' t xs)) else none
    | _, .frow e' t xs => bif t.size == (tt.at e).size then K (.slc e' t ((xs.take h.toNat).drop l.toNat)) σ else none
    | _, _ => none
  | _, _ => none

def lenFits : TK → V → Bool
  | .str, .str _ => true
  | .slice _, .str _ => false
  | .slice _, _ => true
  | _, _ => false

def builtinC (tt : TT) (b : Builtin) (argTypes : List TypeId) (args : List V) (σ : St) (K : V → St → Option ρ) : Option ρ := match b, argTypes, args with
  | .len, [t], [x] => (σ.len x).bind fun n => bif lenFits (tt.at t).kind x then K (.int .i64 (n : Int)) σ else none
  | .append, [ts, tx], [s, x] => appendC tt ts tx s x σ K
  | .min, _, [.int k x, .int k' y] => bif decide (k = k') then K (.int k (imin x y)) σ else none
  | .max, _, [.int k x, .int k' y] => bif decide (k = k') then K (.int k (imax x y)) σ else none
  | _, _, _ => none

def indexC (sz : Nat) (x : V) (i : Int) (σ : St) (K : V → St → Option ρ) : Option ρ := match x with
  | .slc _ t l => bif t.size == sz then chk (decide (0 ≤ i)) <| chk (decide (i < (l.length : Int))) <| K (.sp t (elt l i) 0) σ else none
  | .own b => match σ.box b with
    | .row _ t l => bif t.size == sz then chk (decide (0 ≤ i)) <| chk (decide (i < (l.length : Int))) <| K (.ep b i 0) σ else none
    | .frow _ t l => bif t.size == sz then chk (decide (0 ≤ i)) <| chk (decide (i < (l.length : Int))) <| K (.sp t (elt l i) 0) σ else none
    | _ => none
  | _ => none

def fieldOf (bs : List Box) (x : V) (off : Nat) : Option V := match x with
  | .ptr b o => some (.ptr b (o + off))
  | .ep b i o => match bs.getD b .dead with
    | .row .. => some (.ep b i (o + off))
    | .frow .. => some (.ep b i (o + off))
    | _ => none
  | .sp t x o => some (.sp t x (o + off))
  | _ => none

def val (agg : Bool) (cs : List V) : Option V := match agg, cs with
  | true, cs => some (.agg cs)
  | false, [v] => some v
  | _, _ => none

def listOf (t : Ty) (cs : List (List V)) : Option (List t.D) := match cs with
  | [] => some []
  | c :: r => (pack1 t c).bind fun x => (listOf t r).bind fun l => some (x :: l)
def chunk (n : Nat) : Nat → List V → List (List V)
  | 0, _ => []
  | k + 1, cs => cs.take n :: chunk n k (cs.drop n)

def V.isPtr : V → Bool
  | .ptr .. => true
  | _ => false

section
variable (tt : TT) (C : FuncId → List Md × Orc ρ) (σ : St) (K : V → St → Option ρ)
def stepPick (c a b : Operand) : Option ρ := match σ.ev c with
  | .bool t => pick2 t (σ.ev a) (σ.ev b) fun v => K v σ
  | _ => none
def stepAlloc (t : TypeId) : Option ρ := (tt.at t).ty.bind fun ty => K (.ptr σ.boxes.length 0) (σ.newBox (.cells t (zeros ty)))
def stepBox (t : TypeId) (x : Operand) : Option ρ :=
  bif Nat.blt 0 (tt.at t).size && ((σ.ev x).cells.length == (tt.at t).size && (σ.ev x).cells.all (V.solid σ.boxes)) then K (.ptr σ.boxes.length 0) (σ.newBox (.cells t (σ.ev x).cells)) else none
def stepBuild (t : TypeId) (parts : Array (Nat × Operand)) : Option ρ := match (tt.at t).kind with
  | .struct offs _ => (tt.at t).ty.bind fun ty => (fill σ.boxes (placeOf offs (tt.at t).size) (zeros ty) (parts.toList.map fun p => (p.1, σ.ev p.2))).bind fun cs => K (.agg cs) σ
  | _ => none
def stepBuildSlice (t : TypeId) (len : Nat) (parts : Array (Nat × Operand)) : Option ρ := match (tt.at t).kind with
  | .slice e => (tt.at e).ty.bind fun (ty : Ty) =>
    (fill σ.boxes (fun j => some (j * ty.size, ty.size)) (List.replicate len (zeros ty)).flatten (parts.toList.map fun p => (p.1, σ.ev p.2))).bind fun cs =>
    (listOf ty (chunk ty.size len (frzs σ.boxes cs).1)).bind fun l =>
    chk (Nat.ble (len * ty.size) 16777216) (K (.own (frzs σ.boxes cs).2.length) ⟨σ.slots, (frzs σ.boxes cs).2 ++ [.row e ty l]⟩)
  | _ => none
def stepLoad (t : TypeId) (a : Operand) : Option ρ :=
  bif Nat.blt 0 (tt.at t).size then (σ.look (σ.ev a) (tt.at t).size).bind fun cs => (val (tt.at t).agg cs).bind fun v => K v σ else none
def stepStore (t : TypeId) (a x : Operand) : Option ρ :=
  bif Nat.blt 0 (tt.at t).size && ((σ.ev x).cells.length == (tt.at t).size && (σ.ev x).cells.all (V.solid σ.boxes)) then
    (match σ.ev a with
      | .ep b i off => (St.store ⟨σ.slots, (frzs σ.boxes (σ.ev x).cells).2⟩ (.ep b i off) (frzs σ.boxes (σ.ev x).cells).1).bind fun σ' => K .undef σ'
      | p => (σ.store p (σ.ev x).cells).bind fun σ' => K .undef σ') else none
def stepNil (x : Operand) : Option ρ := match σ.ev x with
  | .ptr b off => K (.ptr b off) σ
  | .ep b i off => match σ.boxes.getD b .dead with
    | .row .. => K (.ep b i off) σ
    | .frow .. => K (.ep b i off) σ
    | _ => none
  | .sp t y off => K (.sp t y off) σ
  | .fn f caps => K (.fn f caps) σ
  | _ => none
def stepBin (op : BinOp) (t : TypeId) (x y : Operand) : Option ρ := binop (match (tt.at t).kind with | .bool => true | _ => false) op (σ.ev x) (σ.ev y) fun v => K v σ
def stepFunc (fn : Fn) (first caps : Array Operand) : Option ρ := match fn with
  | .func f => bif first.toList.isEmpty && (caps.toList.map σ.ev).all V.isPtr then K (.fn f (caps.toList.map σ.ev)) σ else none
  | _ => none
def stepMake (t : TypeId) (l c : Operand) : Option ρ := match (tt.at t).kind, σ.ev l, σ.ev c with
  | .slice e, .int _ n, .int _ m => (tt.at e).ty.bind fun ty => chk (decide (0 ≤ n)) <| chk (decide (m = n)) <| chk (lim n.toNat (tt.at e).bytes) <|
      K (.own σ.boxes.length) (σ.newBox (.row e ty (List.replicate n.toNat ty.dflt)))
  | _, _, _ => none
def stepSlice (t : TypeId) (x : Operand) (lo hi mx : Option Operand) : Option ρ := match mx with
  | none => cutC tt t (σ.ev x) (lo.map σ.ev) (hi.map σ.ev) σ K
  | some _ => none
def stepFieldAddr (t : TypeId) (x : Operand) (f : Nat) : Option ρ := match (tt.at t).kind with
  | .struct offs _ => (offs[f]?).bind fun off => (fieldOf σ.boxes (σ.ev x) off).bind fun v => K v σ
  | _ => none
def stepField (t : TypeId) (x : Operand) (f : Nat) : Option ρ := match (tt.at t).kind, σ.ev x with
  | .struct offs tys, .agg cs => (offs[f]?).bind fun off => (tys[f]?).bind fun ty => bif Nat.blt 0 (tt.at ty).size then (part cs off (tt.at ty).size).bind fun c => (val (tt.at ty).agg c).bind fun v => K v σ else none
  | _, _ => none
def stepIndexAddr (t : TypeId) (x i : Operand) : Option ρ := match (tt.at t).kind, σ.ev i with
  | .slice e, .int _ n => indexC (tt.at e).size (σ.ev x) n σ K
  | _, _ => none
def stepIndex (t : TypeId) (x i : Operand) : Option ρ := match (tt.at t).kind, σ.ev x, σ.ev i with
  | .str, .str s, .int _ n => chk (decide (0 ≤ n)) <| chk (decide (n < (s.size : Int))) <| K (.int .u8 (bt s n)) σ
  | _, _, _ => none
def stepExtract (x : Operand) (i : Nat) : Option ρ := match σ.ev x with
  | .tup vs => (vs[i]?).bind fun v => K v σ
  | _ => none
def stepFn (f : V) (args : List V) : Option ρ := match f with
  | .fn g caps => callC C g (args ++ caps) σ K
  | _ => none
def stepCall (c : Call) : Option ρ := match c.callee with
  | .builtin b => builtinC tt b c.argTypes.toList (c.args.toList.map σ.ev) σ K
  | .value f => stepFn C σ K (σ.ev f) (c.args.toList.map σ.ev)
  | .invoke _ _ => none
end

/-- One operation: the value that it yields, and what it leaves. -/
def step (tt : TT) (C : FuncId → List Md × Orc ρ) (o : Oper) (σ : St) (K : V → St → Option ρ) : Option ρ := match o.op with
  | .move x => K (σ.ev x) σ
  | .assign x => K (σ.ev x) σ
  | .pick c a b => stepPick σ K c a b
  | .alloc t => stepAlloc tt σ K t
  | .box t x => stepBox tt σ K t x
  | .build t parts => stepBuild tt σ K t parts
  | .buildSlice t len parts => stepBuildSlice tt σ K t len parts
  | .load t a => stepLoad tt σ K t a
  | .store t a x => stepStore tt σ K t a x
  | .nilCheck x => stepNil σ K x
  | .binOp op t x y _ => stepBin tt σ K op t x y
  | .unOp op _ x => unop op (σ.ev x) fun v => K v σ
  | .convert s d x => convertTo tt s d (σ.ev x) σ K
  | .makeFunc fn first caps => stepFunc σ K fn first caps
  | .makeSlice t l c => stepMake tt σ K t l c
  | .slice t x lo hi mx => stepSlice tt σ K t x lo hi mx
  | .fieldAddr t x f => stepFieldAddr tt σ K t x f
  | .field t x f => stepField tt σ K t x f
  | .indexAddr t x i => stepIndexAddr tt σ K t x i
  | .index t x i => stepIndex tt σ K t x i
  | .extract x i => stepExtract σ K x i
  | .call c => stepCall tt C σ K c
  | _ => none

/-! ### the state is kept plain: what is put into it is worked out first -/
def lits : List Nat := [0, 1, 2, 3, 4, 5, 6, 7, 8, 9, 10, 11, 12, 13, 14, 15, 16, 17, 18, 19, 20, 21, 22, 23, 24, 25, 26, 27, 28, 29, 30, 31, 32, 33, 34, 35, 36, 37, 38, 39, 40, 41, 42, 43, 44, 45, 46, 47, 48, 49, 50, 51, 52, 53, 54, 55, 56, 57, 58, 59, 60, 61, 62, 63, 64, 65, 66, 67, 68, 69, 70, 71, 72, 73, 74, 75, 76, 77, 78, 79, 80, 81, 82, 83, 84, 85, 86, 87, 88, 89, 90, 91, 92, 93, 94, 95, 96, 97, 98, 99, 100, 101, 102, 103, 104, 105, 106, 107, 108, 109, 110, 111, 112, 113, 114, 115, 116, 117, 118, 119, 120, 121, 122, 123, 124, 125, 126, 127]
/-- A box's number is put down in figures. -/
def forceN : List Nat → Nat → (Nat → Option ρ) → Option ρ
  | [], b, K => K b
  | i :: r, b, K => cond (Nat.beq b i) (K i) (forceN r b K)
def forceV : V → (V → Option ρ) → Option ρ
  | .int k n, K => K (.int k n)
  | .bool b, K => K (.bool b)
  | .str s, K => K (.str s)
  | .slc e t l, K => K (.slc e t l)
  | .nils, K => K .nils
  | .own b, K => forceN lits b fun b => K (.own b)
  | .agg cs, K => K (.agg cs)
  | .tup vs, K => K (.tup vs)
  | .ptr b off, K => forceN lits b fun b => forceN lits off fun off => K (.ptr b off)
  | .ep b i off, K => forceN lits b fun b => forceN lits off fun off => K (.ep b i off)
  | .sp t x off, K => forceN lits off fun off => K (.sp t x off)
  | .fn f caps, K => K (.fn f caps)
  | .undef, K => K .undef
  | .junk, K => K .junk
def forceL : List V → (List V → Option ρ) → Option ρ
  | [], K => K []
  | v :: r, K => forceL r fun r' => K (v :: r')
def forceLV : List V → (List V → Option ρ) → Option ρ
  | [], K => K []
  | v :: r, K => forceV v fun v' => forceLV r fun r' => K (v' :: r')
def forceX : Box → (Box → Option ρ) → Option ρ
  | .cells t cs, K => forceLV cs fun cs' => K (.cells t cs')
  | .row e t l, K => K (.row e t l)
  | .frow e t l, K => K (.frow e t l)
  | .dead, K => K .dead
def forceB : List Box → (List Box → Option ρ) → Option ρ
  | [], K => K []
  | x :: r, K => forceX x fun x' => forceB r fun r' => K (x' :: r')
def forceA : V → (V → Option ρ) → Option ρ
  | .agg cs, K => forceLV cs fun cs' => K (.agg cs')
  | .tup cs, K => forceLV cs fun cs' => K (.tup cs')
  | .fn f cs, K => forceLV cs fun cs' => K (.fn f cs')
  | v, K => forceV v K
def putF (σ : St) (dst : Option Nat) (v : V) (K : St → Option ρ) : Option ρ :=
  forceA v fun v' => forceL (σ.put dst v').slots fun l => forceB σ.boxes fun bs => K ⟨l, bs⟩
def forceS (σ : St) (K : St → Option ρ) : Option ρ := forceLV σ.slots fun l => forceB σ.boxes fun bs => K ⟨l, bs⟩

/-- A region's operations, one behind the other. -/
def runOps (tt : TT) (C : FuncId → List Md × Orc ρ) (ops : List Oper) : List Oper → St → (St → Option ρ) → Option ρ
  | [], σ, K => K σ
  | o :: r, σ, K => match o.guard with
    | none => step tt C o σ fun v σ' => putF σ' o.dst v fun σ' => runOps tt C ops r σ' K
    | some (j, want) => match (ops[j]?).bind (·.dst) with
      | none => none
      | some d => match σ.slots.getD d .undef with
        | .bool t =>
          let go := fun (σ : St) => step tt C o σ fun v σ' => putF σ' o.dst v fun σ' => runOps tt C ops r σ' K
          let no := fun (σ : St) => putF σ o.dst .undef fun σ' => runOps tt C ops r σ' K
          cond t (putF σ (some d) (.bool true) (match want with | true => go | false => no)) (putF σ (some d) (.bool false) (match want with | true => no | false => go))
        | .undef => putF σ o.dst .undef fun σ' => runOps tt C ops r σ' K
        | _ => none

/-! ### regions whose operations may come in several orders -/
/-- The items at some places; elsewhere d. -/
def keepAt {α : Type} (p : List Nat) (d : α) (l : List α) : List α := l.zipIdx.map fun x => bif p.contains x.2 then x.1 else d
/-- The new boxes at some places, the old ones elsewhere. -/
def over (p : List Nat) (new old : List Box) : List Box := old.zipIdx.map fun x => bif p.contains x.2 then new.getD x.2 .dead else x.1

/-- Those that leave the state as it is, whatever they are given. -/
def readOnly : Op → Bool
  | .move _ => true
  | .assign _ => true
  | .pick _ _ _ => true
  | .load _ _ => true
  | .nilCheck _ => true
  | .binOp _ _ _ _ _ => true
  | .unOp _ _ _ => true
  | .convert _ _ _ => true
  | .build _ _ => true
  | .makeFunc _ _ _ => true
  | .fieldAddr _ _ _ => true
  | .field _ _ _ => true
  | .indexAddr _ _ _ => true
  | .index _ _ _ => true
  | .extract _ _ => true
  | .call c => match c.callee with
    | .builtin .len => true
    | .builtin .min => true
    | .builtin .max => true
    | _ => false
  | _ => false

def Box.isDead : Box → Bool
  | .dead => true
  | _ => false
/-- Number L goes by q. -/
def swapTo (L q : Nat) : Nat → Nat := fun b => bif Nat.beq b L then q else b

/-- The boxes that an operation may look at. -/
def fpOf (o : Oper) (σ : St) : List Nat := reach σ.boxes (idsOf [] (o.op.operands.toList.map σ.ev))

/-- What an operation leaves, seen from outside: a new box goes to the place that is kept for it. -/
def outL (q : Nat) (o : Oper) (σ : St) (v : V) (bs : List Box) : Option (V × List Box) :=
  match readOnly o.op with
  | true => bif (v.ids ++ (keepAt (fpOf o σ) .dead σ.boxes).flatMap Box.ids).all (fpOf o σ).contains then some (v, σ.boxes) else none
  | false => bif Nat.ble bs.length (σ.boxes.length + 1) && (v.ids ++ bs.flatMap Box.ids).all fun b => (fpOf o σ).contains b || Nat.beq b σ.boxes.length then
      some (v.ren (swapTo σ.boxes.length q), over (q :: fpOf o σ) ((bs.map (Box.ren (swapTo σ.boxes.length q))).set q ((bs.getD σ.boxes.length .dead).ren (swapTo σ.boxes.length q))) σ.boxes) else none

/-- An operation sees what its operands lead to, and nothing else. -/
def local_ (tt : TT) (C : FuncId → List Md × Orc ρ) (ops : Array Oper) (q : Nat) (o : Oper) (σ : St) (K : V → St → Option ρ) : Option ρ :=
  chk (!(fpOf o σ).contains q && (!(fpOf o σ).contains σ.boxes.length && (σ.box q).isDead)) <|
  step tt C o ⟨keepAt (Oper.looksAt ops o) .junk σ.slots, keepAt (fpOf o σ) .dead σ.boxes⟩ fun v σ1 =>
    (outL q o σ v σ1.boxes).bind fun p => K p.1 ⟨σ.slots, p.2⟩

/-- Where an operation may leave something else than was there. -/
def wOf (q : Nat) (o : Oper) (σ : St) : List Nat := bif readOnly o.op then [] else q :: fpOf o σ


def predsOf (o : Oper) : List Nat := o.after.toList.filterMap fun e => bif Region.binds .any e then some e.on else none
def ancsGo : List Oper → List (List Nat) → List (List Nat)
  | [], acc => acc
  | o :: r, acc => ancsGo r (acc ++ [((predsOf o).flatMap fun p => p :: acc.getD p []).foldl addNew []])
def disj (l l' : List Nat) : Bool := l.all fun b => !l'.contains b
/-- An operation that was run before may as well come behind. -/
def okPair (ops : Array Oper) (A : List (List Nat)) (x : Nat × List Nat × List Nat) (o : Oper) (i : Nat) (fp w : List Nat) : Bool :=
  (A.getD i []).contains x.1 || ((match ops[x.1]? with | some ox => Oper.apart ops ox o | none => false) && (disj x.2.2 fp && disj x.2.1 w))
def okNow (ops : Array Oper) (A : List (List Nat)) (done : List (Nat × List Nat × List Nat)) (o : Oper) (i : Nat) (fp w : List Nat) : Bool :=
  (predsOf o).all (fun p => done.any fun x => Nat.beq x.1 p) && done.all fun x => okPair ops A x o i fp w
def runDs (tt : TT) (C : FuncId → List Md × Orc ρ) (ops : Array Oper) (A : List (List Nat)) (base : Nat) : List (Oper × Nat) → List (Nat × List Nat × List Nat) → St → (St → Option ρ) → Option ρ
  | [], _, σ, K => K σ
  | (o, i) :: r, done, σ, K =>
    chk (okNow ops A done o i ((base + i) :: fpOf o σ) (wOf (base + i) o σ)) <|
    let next := fun (σ1 : St) v (σ' : St) => putF σ' o.dst v fun σ'' => runDs tt C ops A base r ((i, (base + i) :: fpOf o σ1, wOf (base + i) o σ1) :: done) σ'' K
    match o.guard with
    | none => local_ tt C ops (base + i) o σ (next σ)
    | some (j, want) => match (ops[j]?).bind (·.dst) with
      | none => none
      | some d => match σ.slots.getD d .undef with
        | .bool t =>
          let go := fun (σ1 : St) => local_ tt C ops (base + i) o σ1 (next σ1)
          let no := fun (σ1 : St) => next σ1 .undef σ1
          cond t (putF σ (some d) (.bool true) (match want with | true => go | false => no)) (putF σ (some d) (.bool false) (match want with | true => no | false => go))
        | .undef => next σ .undef σ
        | _ => none
def runD (tt : TT) (C : FuncId → List Md × Orc ρ) (ops : Array Oper) (σ : St) (K : St → Option ρ) : Option ρ :=
  runDs tt C ops (ancsGo ops.toList []) σ.boxes.length ops.toList.zipIdx [] ⟨σ.slots, σ.boxes ++ List.replicate ops.size .dead⟩ K

/-- At a loop's head: the slots that are read later, and the forms of what is in them and in the boxes that they point to. -/
structure Head where
  live : List Nat
  slots : List (Nat × Md)
  cells : List (Nat × Nat × Md)

structure Env (ρ : Type) where
  tt : TT
  C : FuncId → List Md × Orc ρ
  heads : List (Nat × Head)
  cuts : List Nat
  np : Nat
  fin : St → Option ρ

def firstRegion : Code → Nat
  | .region id _ _ => id
  | .seq a _ => firstRegion a
  | .cond _ a _ => firstRegion a
  | .block _ c => firstRegion c
  | .loop c => firstRegion c
  | .scope c => firstRegion c
  | _ => 1000000

/-- At a loop's head: the slots that are read later, and the boxes that they lead to; all others are forgotten. -/
def canon (np : Nat) (live : List Nat) (σ : St) (K : St → Option ρ) : Option ρ :=
  let slots := (σ.slots.zipIdx).map fun p => bif live.contains p.2 then p.1 else V.junk
  let ids := reach σ.boxes (idsOf (List.range np) slots)
  chk (okIds ids slots σ.boxes) <| forceS ⟨slots.map (V.ren (idx ids)), ids.map fun b => (σ.box b).ren (idx ids)⟩ K

def headAt (l : List (Nat × Head)) (r : Nat) : Head := match l with
  | [] => ⟨[], [], []⟩
  | (n, s) :: l' => bif n == r then s else headAt l' r
def canonAt (np : Nat) (h : Head) (σ : St) (K : St → Option ρ) : Option ρ :=
  (fixSlots σ h.slots).bind fun σ1 => (fixCells σ1.slots σ1.boxes h.cells).bind fun bs => canon np h.live ⟨σ1.slots, bs⟩ K
def Env.nocut (E : Env ρ) (id : Nat) : Env ρ := { E with cuts := E.cuts.filter fun n => !(n == id) }

variable (E : Env ρ)

def runS (again : List Item → St → Option ρ) : Nat → List Item → St → Option ρ
  | 0, _, _ => none
  | s + 1, k0, σ => match k0 with
    | [] => E.fin σ
    | .inBlock _ :: k => runS again s k σ
    | .inLoop c :: k => canonAt E.np (headAt E.heads (firstRegion c)) σ fun σ' => again (.inLoop c :: k) σ'
    | .code c :: k => match c with
      | .skip => runS again s k σ
      | .seq a b => runS again s (.code a :: .code b :: k) σ
      | .cond c a b => match σ.ev c with
        | .bool t => cond t (runS again s (.code a :: k) σ) (runS again s (.code b :: k) σ)
        | _ => none
      | .block id c => runS again s (.code c :: .inBlock id :: k) σ
      | .loop c => canonAt E.np (headAt E.heads (firstRegion c)) σ fun σ' => again (.inLoop c :: k) σ'
      | .exit id => match exitTo id k with
        | some k' => runS again s k' σ
        | none => none
      | .ret => E.fin σ
      | .region id ops draw => bif E.cuts.contains id then canonAt E.np (headAt E.heads id) σ fun σ' => again (.code (.region id ops draw) :: k) σ' else match draw with
        | false => runOps E.tt E.C ops.toList ops.toList σ fun σ' => runS again s k σ'
        | true => runD E.tt E.C ops σ fun σ' => canon E.np (List.range σ'.slots.length) σ' fun σ'' => runS again s k σ''
      | _ => none
    | _ => none

def run (E : Nat → Env ρ) : Nat → List Item → St → Option ρ
  | 0, _, _ => none
  | n + 1, k, σ => match k with
    | .inLoop c :: k => runS (E n) (run E n) 100000 (.code c :: .inLoop c :: k) σ
    | .code (.region id ops draw) :: k => runS ((E n).nocut id) (run E n) 100000 (.code (.region id ops draw) :: k) σ
    | _ => none
end
end Go.Lin
end

/- What the evaluator's values stand for in the machine's memory. -/
section
namespace Go.Lin

abbrev Fz := Nat → Prop

/-- What is known of the package's variables, as long as frozen blocks are left alone. -/
class Base where
  G : Fz → World → Prop
  later : ∀ {F F' : Fz} {w w' : World}, (∀ g, F g → F' g) → (∀ g, F g → w'.heap[g]? = w.heap[g]?) → G F w → G F' w'

/-- A datum of a type, and the cells that hold it; what it leads to lies in blocks that are written no more. -/
inductive Rep (F : Fz) (w : World) : (t : Ty) → t.D → List Value → Prop
  | int {k : IntKind} {n : Int} : Rep F w (.int k) n [.int k n]
  | bool {b : Bool} : Rep F w .bool b [.bool b]
  | str {s : ByteArray} : Rep F w .str s [.string s]
  | slice {e : TypeId} {t : Ty} {l : List t.D} {A : Option Addr} {c : Nat} (ad : Addr) (cs : Nat → List Value) (hc : l.length ≤ c) (hm : c ≤ maxLen)
      (hA : 0 < l.length → A = some ad ∧ F ad.block) (hel : ∀ j (h : j < l.length), Rep F w t (l[j]'h) (cs j))
      (hcell : ∀ j, j < l.length → ∀ i u, (cs j)[i]? = some u → w.cell? (ad.add (j * t.size + i)) = some u) : Rep F w (.slice e t) l [.slice A l.length c]
  | pair {a b : Ty} {x : a.D} {y : b.D} {c1 c2 : List Value} (h1 : Rep F w a x c1) (h2 : Rep F w b y c2) : Rep F w (.pair a b) (x, y) (c1 ++ c2)
  | gval {s v : TypeId} {x : GVal} {cs : List Value}
      (h : Rep F w (.pair (.int .i64) (.pair .str (.pair (.int .i64) (.pair (.slice s .str) (.slice v (.gval s v)))))) (x.kind, x.text, x.num, x.keys, x.kids) cs) : Rep F w (.gval s v) x cs

theorem block_add (a : Addr) (n : Nat) : (a.add n).block = a.block := by unfold Addr.add; split <;> rfl
theorem add_add (a : Addr) (i j : Nat) : (a.add i).add j = a.add (i + j) := by
  unfold Addr.add
  by_cases hi : i = 0 <;> by_cases hj : j = 0 <;> simp [hi, hj, Nat.add_assoc]

variable {F F' : Fz} {w w' : World}

theorem Rep.mono [Base] {t : Ty} {x : t.D} {cs : List Value} (h : Rep F w t x cs) (hF : ∀ g, F g → F' g) (hw : ∀ g, F g → w'.heap[g]? = w.heap[g]?) : Rep F' w' t x cs := by
  induction h with
  | int => exact .int
  | bool => exact .bool
  | str => exact .str
  | slice ad cs hc hm hA _ hcell ih =>
    refine .slice ad cs hc hm (fun h0 => ⟨(hA h0).1, hF _ (hA h0).2⟩) ih fun j hj i u hu => ?_
    have hb := (hA (by omega)).2
    have := hcell j hj i u hu
    rw [← this]
    exact World.cell?_of_block (by rw [block_add]; exact hw _ hb)
  | pair _ _ ih1 ih2 => exact .pair ih1 ih2
  | gval _ ih => exact .gval ih

theorem Rep.len {t : Ty} {x : t.D} {cs : List Value} (h : Rep F w t x cs) : cs.length = t.size := by
  induction h with
  | int => rfl
  | bool => rfl
  | str => rfl
  | slice => rfl
  | pair _ _ ih1 ih2 => simp [Ty.size, ih1, ih2]
  | gval _ ih => simpa [Ty.size] using ih

theorem Rep.int_inv {k : IntKind} {n : Int} {cs : List Value} (h : Rep F w (.int k) n cs) : cs = [.int k n] := by cases h; rfl
theorem Rep.bool_inv {b : Bool} {cs : List Value} (h : Rep F w .bool b cs) : cs = [.bool b] := by cases h; rfl
theorem Rep.str_inv {s : ByteArray} {cs : List Value} (h : Rep F w .str s cs) : cs = [.string s] := by cases h; rfl
theorem Rep.pair_inv {a b : Ty} {x : (Ty.pair a b).D} {cs : List Value} (h : Rep F w (.pair a b) x cs) : ∃ c1 c2, cs = c1 ++ c2 ∧ Rep F w a x.1 c1 ∧ Rep F w b x.2 c2 := by
  cases h with
  | pair h1 h2 => exact ⟨_, _, rfl, h1, h2⟩
theorem Rep.slice_inv {e : TypeId} {t : Ty} {l : List t.D} {cs : List Value} (h : Rep F w (.slice e t) l cs) :
    ∃ A c ad, ∃ vs : Nat → List Value, cs = [.slice A l.length c] ∧ l.length ≤ c ∧ c ≤ maxLen ∧ (0 < l.length → A = some ad ∧ F ad.block) ∧ (∀ j (h : j < l.length), Rep F w t (l[j]'h) (vs j)) ∧
      (∀ j, j < l.length → ∀ i u, (vs j)[i]? = some u → w.cell? (ad.add (j * t.size + i)) = some u) := by
  cases h with
  | slice ad vs hc hm hA hel hcell => exact ⟨_, _, ad, vs, rfl, hc, hm, hA, hel, hcell⟩
theorem Rep.gval_inv {s v : TypeId} {x : GVal} {cs : List Value} (h : Rep F w (.gval s v) x cs) :
    Rep F w (.pair (.int .i64) (.pair .str (.pair (.int .i64) (.pair (.slice s .str) (.slice v (.gval s v)))))) (x.kind, x.text, x.num, x.keys, x.kids) cs := by
  cases h with
  | gval h => exact h

/-! ### two lists, member by member -/
inductive All2 {α β : Type} (R : α → β → Prop) : List α → List β → Prop
  | nil : All2 R [] []
  | cons {x y xs ys} (h : R x y) (t : All2 R xs ys) : All2 R (x :: xs) (y :: ys)
namespace All2
variable {α β : Type} {R S : α → β → Prop} {xs xs' : List α} {ys ys' : List β}
theorem length (h : All2 R xs ys) : xs.length = ys.length := by
  induction h with
  | nil => rfl
  | cons _ _ ih => simp [ih]
theorem mono (h : All2 R xs ys) (hm : ∀ x y, R x y → S x y) : All2 S xs ys := by
  induction h with
  | nil => exact .nil
  | cons h _ ih => exact .cons (hm _ _ h) ih
theorem get (h : All2 R xs ys) : ∀ (i : Nat) (x : α), xs[i]? = some x → ∃ y, ys[i]? = some y ∧ R x y := by
  induction h with
  | nil => intro i x hx; simp at hx
  | cons h _ ih =>
    intro i x hx
    cases i with
    | zero => simp at hx; subst hx; exact ⟨_, rfl, h⟩
    | succ i => simp at hx; simpa using ih i x hx
theorem getD [Base] (h : All2 R xs ys) (i : Nat) (a : α) (b : β) (hab : R a b) : R (xs.getD i a) (ys.getD i b) := by
  rcases hx : xs[i]? with _ | x
  · have hl := h.length
    have : ys[i]? = none := by rw [List.getElem?_eq_none_iff] at hx ⊢; omega
    simp [List.getD_eq_getElem?_getD, hx, this, hab]
  · obtain ⟨y, hy, hr⟩ := h.get i x hx
    simp [List.getD_eq_getElem?_getD, hx, hy, hr]
theorem set (h : All2 R xs ys) (i : Nat) {x : α} {y : β} (hr : R x y) : All2 R (xs.set i x) (ys.set i y) := by
  induction h generalizing i with
  | nil => exact .nil
  | cons h t ih =>
    cases i with
    | zero => exact .cons hr t
    | succ i => exact .cons h (ih i)
theorem append (h : All2 R xs ys) (k : All2 R xs' ys') : All2 R (xs ++ xs') (ys ++ ys') := by
  induction h with
  | nil => exact k
  | cons h _ ih => exact .cons h ih
theorem take (h : All2 R xs ys) (n : Nat) : All2 R (xs.take n) (ys.take n) := by
  induction h generalizing n with
  | nil => simp; exact .nil
  | cons h _ ih =>
    cases n with
    | zero => exact .nil
    | succ n => exact .cons h (ih n)
theorem drop (h : All2 R xs ys) (n : Nat) : All2 R (xs.drop n) (ys.drop n) := by
  induction h generalizing n with
  | nil => simp; exact .nil
  | cons h t ih =>
    cases n with
    | zero => exact .cons h t
    | succ n => exact ih n
theorem map {γ δ : Type} {f : α → γ} {g : β → δ} {T : γ → δ → Prop} (h : All2 R xs ys) (hf : ∀ x y, R x y → T (f x) (g y)) : All2 T (xs.map f) (ys.map g) := by
  induction h with
  | nil => exact .nil
  | cons h _ ih => exact .cons (hf _ _ h) ih
theorem of_get (hl : xs.length = ys.length) (h : ∀ (i : Nat) (x : α) (y : β), xs[i]? = some x → ys[i]? = some y → R x y) : All2 R xs ys := by
  induction xs generalizing ys with
  | nil => cases ys with
    | nil => exact .nil
    | cons => simp at hl
  | cons x xs ih => cases ys with
    | nil => simp at hl
    | cons y ys => exact .cons (h 0 x y rfl rfl) (ih (by simpa using hl) fun i a b ha hb => h (i + 1) a b (by simpa using ha) (by simpa using hb))
theorem replicate {x : α} {y : β} (h : R x y) (n : Nat) : All2 R (List.replicate n x) (List.replicate n y) := by
  induction n with
  | zero => exact .nil
  | succ n ih => exact .cons h ih
theorem split (h : All2 R (xs ++ xs') ys) : ∃ y1 y2, ys = y1 ++ y2 ∧ All2 R xs y1 ∧ All2 R xs' y2 := by
  induction xs generalizing ys with
  | nil => exact ⟨[], ys, rfl, .nil, h⟩
  | cons x xs ih =>
    cases h with
    | cons hr ht =>
      obtain ⟨y1, y2, rfl, h1, h2⟩ := ih ht
      exact ⟨_ :: y1, y2, rfl, .cons hr h1, h2⟩
end All2

/-! ### values -/
/-- What the header of a box says: the block in which it lies. -/
def blk : Value → Option Nat
  | .pointer (some a) => some a.block
  | .slice (some a) _ _ => some a.block
  | _ => none

section
variable (F : Fz) (w : World) (m : Nat → Value) (bs : List Box)

/-- An element's place in a row. -/
def EpAt (h v : Value) (n i sz off : Nat) : Prop := ∃ (ad : Addr) (c : Nat), h = .slice (some ad) n c ∧ i < n ∧ v = .pointer (some (ad.add (i * sz + off)))

/-- A value of one cell. -/
def RL : V → Value → Prop
  | .int k n, v => v = .int k n
  | .bool b, v => v = .bool b
  | .str s, v => v = .string s
  | .slc e t l, v => Rep F w (.slice e t) l [v]
  | .nils, v => v = .slice none 0 0
  | .own b, v => b < bs.length ∧ v = m b
  | .ptr b off, v => b < bs.length ∧ ∃ g, m b = .pointer (some ⟨g, 0, none⟩) ∧ v = .pointer (some ⟨g, off, none⟩)
  | .ep b i off, v => b < bs.length ∧ 0 ≤ i ∧ match bs.getD b .dead with
    | .row _ t l => EpAt (m b) v l.length i.toNat t.size off
    | .frow _ t l => EpAt (m b) v l.length i.toNat t.size off
    | _ => True
  | .sp t x off, v => ∃ (ad : Addr) (cs : List Value), v = .pointer (some (ad.add off)) ∧ F ad.block ∧ Rep F w t x cs ∧ ∀ (i : Nat) (u : Value), cs[i]? = some u → w.cell? (ad.add i) = some u
  | .undef, v => v = .tuple #[]
  | .junk, _ => True
  | _, _ => False

def R2 : V → Value → Prop
  | .agg cs, v => ∃ vs, v = .agg vs ∧ All2 (RL F w m bs) cs vs.toList
  | x, v => RL F w m bs x v

def RV : V → Value → Prop
  | .tup xs, v => ∃ vs, v = .tuple vs ∧ All2 (R2 F w m bs) xs vs.toList
  | .fn f caps, v => ∃ vs, v = .func (.func f) #[] vs ∧ All2 (RL F w m bs) caps vs.toList
  | .junk, _ => True
  | x, v => R2 F w m bs x v

/-- A list of data, and the cells that hold it, one behind the other. -/
def Reps (t : Ty) (l : List t.D) (xs : List Value) : Prop := ∃ cs : List (List Value), xs = cs.flatten ∧ All2 (Rep F w t) l cs

def RB (b : Nat) : Box → Prop
  | .cells t cs => ∃ g arr, m b = .pointer (some ⟨g, 0, none⟩) ∧ w.heap[g]? = some (.cells arr t (0, 0)) ∧ All2 (RL F w m bs) cs arr.toList ∧ ¬ F g
  | .row e t l => ∃ xs, w.ownsRow 0 e t.size (m b) l.length xs ∧ Reps F w t l xs ∧ ∀ g, blk (m b) = some g → ¬ F g
  | .frow e t l => Rep F w (.slice e t) l [m b]
  | .dead => True
end

def Box.live : Box → Bool
  | .cells .. => true
  | .row .. => true
  | _ => false

/-- The boxes as they lie in memory. -/
structure RBs [Base] (F : Fz) (w : World) (m : Nat → Value) (bs : List Box) : Prop where
  box : ∀ b x, bs[b]? = some x → RB F w m bs b x
  apart : ∀ b b' x x' g, bs[b]? = some x → bs[b']? = some x' → x.live = true → x'.live = true → b ≠ b' → blk (m b) = some g → blk (m b') ≠ some g
  fz : ∀ g, F g → g < w.heap.size
  glob : Base.G F w

/-- The blocks of the boxes that are written. -/
def Owned (m : Nat → Value) (bs : List Box) (g : Nat) : Prop := ∃ b x, bs[b]? = some x ∧ x.live = true ∧ blk (m b) = some g

/-- What may not be written is as it was. -/
structure Keep (O : Nat → Prop) (w w' : World) : Prop where
  os : w'.os = w.os
  tape : w'.tape = w.tape
  output : w'.output = w.output
  size : w.heap.size ≤ w'.heap.size
  block : ∀ g, g < w.heap.size → ¬ O g → w'.heap[g]? = w.heap[g]?

structure Rel [Base] (O : Nat → Prop) (F : Fz) (m : Nat → Value) (σ : St) (a : Act) (w : World) : Prop where
  slots : All2 (RV F w m σ.boxes) σ.slots a.tmps.toList
  boxes : RBs F w m σ.boxes
  own : ∀ g, Owned m σ.boxes g → O g
  defers : a.defers = []

/-! ### how it lasts -/
/-- A box may die; it never turns into another. -/
def Box.le : Box → Box → Prop
  | _, .dead => True
  | .row _ t l, .row _ t' l' => t' = t ∧ l'.length = l.length
  | .row _ t l, .frow _ t' l' => t' = t ∧ l'.length = l.length
  | .frow _ t l, .frow _ t' l' => t' = t ∧ l'.length = l.length
  | .cells t _, .cells t' _ => t' = t
  | _, _ => False
theorem Box.le_refl (x : Box) : Box.le x x := by cases x <;> simp [Box.le]
theorem Box.le_trans {x y z : Box} (h : Box.le x y) (k : Box.le y z) : Box.le x z := by
  cases x <;> cases y <;> cases z <;> simp_all [Box.le]

structure Later (F F' : Fz) (w w' : World) (m m' : Nat → Value) (bs bs' : List Box) : Prop where
  fz : ∀ g, F g → F' g
  blk : ∀ g, F g → w'.heap[g]? = w.heap[g]?
  len : bs.length ≤ bs'.length
  le : ∀ b, b < bs.length → Box.le (bs.getD b .dead) (bs'.getD b .dead)
  hd : ∀ b, b < bs.length → m' b = m b

variable {m m' : Nat → Value} {bs bs' : List Box}

theorem Later.refl [Base] : Later F F w w m m bs bs := ⟨fun _ h => h, fun _ _ => rfl, Nat.le_refl _, fun _ _ => Box.le_refl _, fun _ _ => rfl⟩

theorem RL.later [Base] {x : V} {v : Value} (h : RL F w m bs x v) (L : Later F F' w w' m m' bs bs') : RL F' w' m' bs' x v := by
  cases x with
  | slc e t l => exact Rep.mono h L.fz L.blk
  | own b => exact ⟨Nat.lt_of_lt_of_le h.1 L.len, h.2.trans (L.hd b h.1).symm⟩
  | ptr b off =>
    obtain ⟨hb, g, hg, hv⟩ := h
    exact ⟨Nat.lt_of_lt_of_le hb L.len, g, (L.hd b hb).trans hg, hv⟩
  | ep b i off =>
    obtain ⟨hb, hi, hm⟩ := h
    refine ⟨Nat.lt_of_lt_of_le hb L.len, hi, ?_⟩
    have hle := L.le b hb
    rw [L.hd b hb]
    revert hm hle
    generalize bs.getD b .dead = x
    generalize bs'.getD b .dead = y
    intro hm hle
    cases x <;> cases y <;> simp_all [Box.le]
  | sp t y off =>
    obtain ⟨ad, cs, hv, hF, hr, hc⟩ := h
    refine ⟨ad, cs, hv, L.fz _ hF, hr.mono L.fz L.blk, fun i u hu => ?_⟩
    rw [← hc i u hu]
    exact World.cell?_of_block (by rw [block_add]; exact L.blk _ hF)
  | _ => exact h
theorem R2.later [Base] {x : V} {v : Value} (h : R2 F w m bs x v) (L : Later F F' w w' m m' bs bs') : R2 F' w' m' bs' x v := by
  cases x with
  | agg cs =>
    obtain ⟨vs, rfl, hh⟩ := h
    exact ⟨vs, rfl, hh.mono fun _ _ hx => hx.later L⟩
  | _ => simp only [R2] at h ⊢; exact RL.later h L
theorem RV.later [Base] {x : V} {v : Value} (h : RV F w m bs x v) (L : Later F F' w w' m m' bs bs') : RV F' w' m' bs' x v := by
  cases x with
  | tup cs =>
    obtain ⟨vs, rfl, hh⟩ := h
    exact ⟨vs, rfl, hh.mono fun _ _ hx => hx.later L⟩
  | fn f cs =>
    obtain ⟨vs, rfl, hh⟩ := h
    exact ⟨vs, rfl, hh.mono fun _ _ hx => hx.later L⟩
  | junk => exact trivial
  | _ => simp only [RV] at h ⊢; exact R2.later h L
theorem Reps.later [Base] {t : Ty} {l : List t.D} {xs : List Value} (h : Reps F w t l xs) (hF : ∀ g, F g → F' g) (hw : ∀ g, F g → w'.heap[g]? = w.heap[g]?) : Reps F' w' t l xs := by
  obtain ⟨cs, rfl, hh⟩ := h
  exact ⟨cs, rfl, hh.mono fun _ _ hx => hx.mono hF hw⟩
end Go.Lin
end

/- Each operation of the evaluator is what the machine does. -/
section
namespace Go.Lin

variable {F : Fz} {w : World} {m : Nat → Value} {bs : List Box}

theorem RL_unpack [Base] {t : Ty} {x : t.D} {cs : List Value} (h : Rep F w t x cs) : All2 (RL F w m bs) (unpack t x) cs := by
  induction t generalizing cs with
  | int k => obtain rfl := h.int_inv; exact .cons rfl .nil
  | bool => obtain rfl := h.bool_inv; exact .cons rfl .nil
  | str => obtain rfl := h.str_inv; exact .cons rfl .nil
  | slice e t _ =>
    obtain ⟨A, c, ad, vs, rfl, _⟩ := h.slice_inv
    exact .cons h .nil
  | pair a b iha ihb =>
    obtain ⟨c1, c2, rfl, h1, h2⟩ := h.pair_inv
    exact (iha h1).append (ihb h2)
  | gval s v =>
    obtain ⟨c1, r1, rfl, h1, hr⟩ := h.gval_inv.pair_inv
    obtain ⟨c2, r2, rfl, h2, hr⟩ := hr.pair_inv
    obtain ⟨c3, r3, rfl, h3, hr⟩ := hr.pair_inv
    obtain ⟨c4, c5, rfl, h4, h5⟩ := hr.pair_inv
    obtain rfl := h1.int_inv
    obtain rfl := h2.str_inv
    obtain rfl := h3.int_inv
    obtain ⟨A, c, ad, vs, rfl, _⟩ := h4.slice_inv
    obtain ⟨A', c', ad', vs', rfl, _⟩ := h5.slice_inv
    exact .cons rfl (.cons rfl (.cons rfl (.cons h4 (.cons h5 .nil))))

theorem unpack_len (t : Ty) (x : t.D) : (unpack t x).length = t.size := by
  induction t with
  | pair a b iha ihb => simp [unpack, Ty.size, iha, ihb]
  | _ => rfl

theorem asSlc_sound {e : TypeId} {t : Ty} {v : V} {l : List t.D} {c : Value} (h : asSlc e t v = some l) (hr : RL F w m bs v c) : Rep F w (.slice e t) l [c] := by
  cases v with
  | slc e' t' l' =>
    simp only [asSlc] at h
    split at h
    · rename_i hh
      obtain ⟨rfl, rfl⟩ := hh
      simp only [Option.some.injEq] at h
      subst h
      exact hr
    · cases h
  | nils =>
    simp only [asSlc, Option.some.injEq] at h
    subst h
    have hr : c = .slice none 0 0 := hr
    subst hr
    exact Rep.slice (l := ([] : List t.D)) ⟨0, 0, none⟩ (fun _ => []) (by simp) (by simp) (by simp) (by simp) (by simp)
  | _ => simp [asSlc] at h

theorem pack_gval {s v : TypeId} {vs rest : List V} {x : GVal} (h : packG s v vs = some (x, rest)) :
    ∃ k tx n ks vk keys kids, vs = .int .i64 k :: .str tx :: .int .i64 n :: ks :: vk :: rest ∧ asSlc s .str ks = some keys ∧ asSlc v (.gval s v) vk = some kids ∧ x = ⟨k, tx, n, keys, kids⟩ := by
  unfold packG at h
  split at h
  · rename_i k tx n ks vk r
    simp only [Option.bind_eq_some_iff, Option.some.injEq, Prod.mk.injEq] at h
    obtain ⟨keys, hk, kids, hv, rfl, rfl⟩ := h
    exact ⟨k, tx, n, ks, vk, keys, kids, rfl, hk, hv, rfl⟩
  · cases h

theorem pack_sound [Base] {t : Ty} {vs rest : List V} {x : t.D} {cs : List Value} (h : pack t vs = some (x, rest)) (hr : All2 (RL F w m bs) vs cs) :
    ∃ c1 c2, cs = c1 ++ c2 ∧ Rep F w t x c1 ∧ All2 (RL F w m bs) rest c2 := by
  induction t generalizing vs rest cs with
  | int k =>
    cases hr with
    | nil => simp [pack] at h
    | cons h1 h2 =>
      rename_i v c vs cs
      cases v <;> simp only [pack] at h <;> try (cases h; done)
      rename_i k' n
      simp only [Bool.cond_decide] at h
      split at h
      · rename_i hk
        subst hk
        simp only [Option.some.injEq, Prod.mk.injEq] at h
        obtain ⟨rfl, rfl⟩ := h
        have h1 : c = _ := h1
        subst h1
        exact ⟨[_], cs, rfl, .int, h2⟩
      · cases h
  | bool =>
    cases hr with
    | nil => simp [pack] at h
    | cons h1 h2 =>
      rename_i v c vs cs
      cases v <;> simp only [pack] at h <;> try (cases h; done)
      simp only [Option.some.injEq, Prod.mk.injEq] at h
      obtain ⟨rfl, rfl⟩ := h
      have h1 : c = _ := h1
      subst h1
      exact ⟨[_], cs, rfl, .bool, h2⟩
  | str =>
    cases hr with
    | nil => simp [pack] at h
    | cons h1 h2 =>
      rename_i v c vs cs
      cases v <;> simp only [pack] at h <;> try (cases h; done)
      simp only [Option.some.injEq, Prod.mk.injEq] at h
      obtain ⟨rfl, rfl⟩ := h
      have h1 : c = _ := h1
      subst h1
      exact ⟨[_], cs, rfl, .str, h2⟩
  | slice e t _ =>
    cases hr with
    | nil => simp [pack] at h
    | cons h1 h2 =>
      rename_i v c vs cs
      simp only [pack, Option.bind_eq_some_iff, Option.some.injEq, Prod.mk.injEq] at h
      obtain ⟨l, hl, rfl, rfl⟩ := h
      exact ⟨[_], cs, rfl, asSlc_sound hl h1, h2⟩
  | pair a b iha ihb =>
    simp only [pack, Option.bind_eq_some_iff, Option.some.injEq, Prod.mk.injEq] at h
    obtain ⟨⟨x1, r1⟩, h1, ⟨x2, r2⟩, h2, rfl, rfl⟩ := h
    obtain ⟨c1, c2, rfl, hr1, hr'⟩ := iha h1 hr
    obtain ⟨c3, c4, rfl, hr2, hr''⟩ := ihb h2 hr'
    exact ⟨c1 ++ c3, c4, by simp, .pair hr1 hr2, hr''⟩
  | gval s v =>
    obtain ⟨k, tx, n, ks, vk, keys, kids, rfl, hk, hv, rfl⟩ := pack_gval h
    rcases hr with _ | ⟨h1, _ | ⟨h2, _ | ⟨h3, _ | ⟨h4, _ | ⟨h5, hr⟩⟩⟩⟩⟩
    have h1 := (show _ = _ from h1)
    have h2 := (show _ = _ from h2)
    have h3 := (show _ = _ from h3)
    subst h1 h2 h3
    refine ⟨[_, _, _, _, _], _, rfl, .gval ?_, hr⟩
    exact Rep.pair (c1 := [_]) .int (Rep.pair (c1 := [_]) .str (Rep.pair (c1 := [_]) .int (Rep.pair (c1 := [_]) (asSlc_sound hk h4) (asSlc_sound hv h5))))

theorem pack1_sound [Base] {t : Ty} {vs : List V} {x : t.D} {cs : List Value} (h : pack1 t vs = some x) (hr : All2 (RL F w m bs) vs cs) : Rep F w t x cs := by
  simp only [pack1, Option.bind_eq_some_iff] at h
  obtain ⟨⟨y, rest⟩, h1, h2⟩ := h
  cases rest with
  | nil =>
    simp only [Option.some.injEq] at h2
    subst h2
    obtain ⟨c1, c2, rfl, hx, hr'⟩ := pack_sound h1 hr
    cases hr'
    simpa using hx
  | cons => cases h2

/-! ### what an operation leaves -/
theorem getD_toList (xs : Array Value) (t : Nat) (d : Value) : xs.getD t d = xs.toList.getD t d := by
  simp [Array.getD_eq_getD_getElem?, List.getD_eq_getElem?_getD]

theorem undef_eq : undef = Value.tuple #[] := rfl

theorem ofConst_sound (v : Value) : RV F w m bs (ofConst v) v := by
  cases v with
  | slice a n c => cases a <;> cases n <;> cases c <;> first | rfl | exact trivial
  | tuple vs =>
    rcases vs with ⟨_ | ⟨x, l⟩⟩
    · rfl
    · exact trivial
  | _ => first | rfl | exact trivial

theorem ev_sound [Base] {σ : St} {a : Act} (hs : All2 (RV F w m bs) σ.slots a.tmps.toList) (x : Operand) : RV F w m bs (σ.ev x) (a.eval x) := by
  cases x with
  | tmp t =>
    show RV F w m bs (σ.slots.getD t .undef) (a.tmps.getD t undef)
    rw [getD_toList]
    exact hs.getD t .undef undef rfl
  | const v => exact ofConst_sound v
  | global g => exact trivial
  | func f => exact ⟨#[], rfl, .nil⟩

/-- What is so behind an operation that yields cv. -/
def Out [Base] {ρ : Type} (O : Nat → Prop) (F : Fz) (w : World) (m : Nat → Value) (bs : List Box) (K : V → St → Option ρ) (r : ρ) (a : Act) (cv : Value) (w' : World) : Prop :=
  ∃ v σ' F' m', K v σ' = some r ∧ Rel O F' m' σ' a w' ∧ RV F' w' m' σ'.boxes v cv ∧ Keep O w w' ∧ Later F F' w w' m m' bs σ'.boxes ∧ ∀ g, F' g → F g ∨ O g

theorem Keep.refl (O : Nat → Prop) (w : World) : Keep O w w := ⟨rfl, rfl, rfl, Nat.le_refl _, fun _ _ _ => rfl⟩
theorem Keep.trans {O : Nat → Prop} {w1 w2 w3 : World} (h : Keep O w1 w2) (k : Keep O w2 w3) : Keep O w1 w3 :=
  ⟨k.os.trans h.os, k.tape.trans h.tape, k.output.trans h.output, Nat.le_trans h.size k.size, fun g hg ho => (k.block g (Nat.lt_of_lt_of_le hg h.size) ho).trans (h.block g hg ho)⟩

section
variable {ρ : Type} {P : Program} {O : Nat → Prop} {σ : St} {a : Act} {K : V → St → Option ρ} {r : ρ} {o : Oper} {next : Act → World → Prop} {Q : Exit → Act → World → Prop}

theorem Out.pure_ [Base] {v : V} {cv : Value} (hK : K v σ = some r) (hR : Rel O F m σ a w) (hv : RV F w m σ.boxes v cv) : Out O F w m σ.boxes K r a cv w :=
  ⟨v, σ, F, m, hK, hR, hv, .refl O w, .refl, fun _ h => .inl h⟩

theorem wp_value {cv : Value} {w' : World} (h : (execOp a.eval o).run P w = .ok (.value cv) w') (hn : next (a.put o.dst cv) w') : o.wp P a w next Q := by
  unfold Oper.wp
  rw [h, Oper.upon_value]
  exact hn
theorem wp_skip_ {w' : World} (h : (execOp a.eval o).run P w = .ok .skip w') (hn : next (a.put o.dst undef) w') : o.wp P a w next Q := by
  unfold Oper.wp
  rw [h, Oper.upon_skip]
  exact hn

theorem Rel.put [Base] {v : V} {cv : Value} (h : Rel O F m σ a w) (hv : RV F w m σ.boxes v cv) (dst : Option Nat) : Rel O F m (σ.put dst v) (a.put dst cv) w := by
  cases dst with
  | none => exact h
  | some d =>
    refine ⟨?_, h.boxes, h.own, h.defers⟩
    show All2 _ (σ.slots.set d v) (a.tmps.setIfInBounds d cv).toList
    rw [Array.toList_setIfInBounds]
    exact h.slots.set d hv
theorem St.put_boxes (σ : St) (dst : Option Nat) (v : V) : (σ.put dst v).boxes = σ.boxes := by cases dst <;> rfl

/-! #### the operations that only compute -/
theorem RV.bool_inv {b : Bool} {c : Value} (h : RV F w m bs (.bool b) c) : c = .bool b := h
theorem RV.int_inv {k : IntKind} {n : Int} {c : Value} (h : RV F w m bs (.int k n) c) : c = .int k n := h
theorem RV.str_inv {s : ByteArray} {c : Value} (h : RV F w m bs (.str s) c) : c = .string s := h

theorem chk_some {b : Bool} {k : Option ρ} {r : ρ} (h : chk b k = some r) : b = true ∧ k = some r := by
  cases b
  · cases h
  · exact ⟨rfl, h⟩

theorem arith_sound [Base] (t : TypeId) {op : BinOp} {k : IntKind} {x y : Int} {K : V → Option ρ} (h : arith op k x y K = some r) (hsh : op ≠ .shl ∧ op ≠ .shr) :
    ∃ v cv, K v = some r ∧ RV F w m bs v cv ∧ (Go.binOp op t (.int k x) (.int k y)).run P w = .ok cv w := by
  cases op <;> simp only [arith] at h <;> first
    | (cases h; done)
    | (exact ⟨_, _, h, rfl, by simp [Go.binOp, Op.intArith, Op.intCmp, Op.intBits, Sem.run_pure, iand, ior, ixor]⟩)
    | (obtain ⟨hc, h⟩ := chk_some h
       refine ⟨_, _, h, rfl, ?_⟩
       have hy : ¬ y = 0 := by simpa using hc
       simp [Go.binOp, Op.intDiv, hy, Sem.run_pure])
    | (exact absurd rfl hsh.1)
    | (exact absurd rfl hsh.2)

theorem text_sound [Base] (t : TypeId) {op : BinOp} {x y : ByteArray} {K : V → Option ρ} (h : text op x y K = some r) :
    ∃ v cv, K v = some r ∧ RV F w m bs v cv ∧ (Go.binOp op t (.string x) (.string y)).run P w = .ok cv w := by
  cases op <;> simp only [text] at h <;> first
    | (cases h; done)
    | (exact ⟨_, _, h, rfl, by simp [Go.binOp, Op.stringOp, Sem.run_pure, seq_, slt]⟩)
    | (obtain ⟨hc, h⟩ := chk_some h
       refine ⟨_, _, h, rfl, ?_⟩
       have hy : (x.size : Int) + y.size ≤ 9223372036854775807 := by
         have : x.size + y.size ≤ 9223372036854775807 := by simpa using hc
         omega
       simp [Go.binOp, Op.stringOp, Sem.run_pure, hy])

theorem shift_sound [Base] (t : TypeId) {op : BinOp} {k k' : IntKind} {x y : Int} {K : V → Option ρ} (h : shift op k x y K = some r) :
    ∃ v cv, K v = some r ∧ RV F w m bs v cv ∧ (Go.binOp op t (.int k x) (.int k' y)).run P w = .ok cv w := by
  cases op <;> simp only [shift] at h <;> first
    | (cases h; done)
    | (obtain ⟨hc, h⟩ := chk_some h
       refine ⟨_, _, h, rfl, ?_⟩
       have hy : ¬ y < 0 := by have : 0 ≤ y := by simpa using hc
                               omega
       simp [Go.binOp, Op.shift, hy, Sem.run_pure, ishl, ishr])

/-- What the table says of a type is so. -/
structure TTok (P : Program) (tt : TT) : Prop where
  known : ∀ t, 0 < (tt.at t).size → ∃ inf, P.info? t = some inf ∧ inf.size = (tt.at t).size ∧ inf.bytes = (tt.at t).bytes
  under : ∀ t, match (tt.at t).kind with
    | .int k => P.underlying t = some (.int k)
    | .bool => P.underlying t = some .bool
    | .str => P.underlying t = some .string
    | .slice e => P.underlying t = some (.slice e) ∧ 0 < (tt.at e).size
    | .struct offs tys => ∃ fs : Array Field, P.underlying t = some (.struct fs) ∧ offs = fs.toList.map (·.offset) ∧ tys = fs.toList.map (·.type) ∧
        ∀ (i : Nat) f, fs[i]? = some f → 0 < P.cellsOf f.type ∧ placeOf offs (tt.at t).size i = some (f.offset, P.cellsOf f.type)
    | .other => 0 < (tt.at t).size → ∃ d, P.underlying t = some d ∧ (match d with | .struct _ | .array _ _ => true | _ => false) = false
  byte : ∀ e, (match (tt.at e).kind with | .int .u8 => True | _ => False) → ∃ inf, P.info? e = some inf ∧ inf.zero = some (.int .u8 0) ∧ inf.size = 1 ∧ inf.bytes = 1
  zero : ∀ t ty, (tt.at t).ty = some ty → ty.size = (tt.at t).size ∧ 0 < (tt.at t).bytes ∧ ∃ inf z, P.info? t = some inf ∧ inf.zero = some z ∧ ∀ F w m bs, All2 (RL F w m bs) (zeros ty) z.cells.toList

theorem Ty.size_pos (t : Ty) : 0 < t.size := by
  induction t <;> simp [Ty.size] <;> omega

variable {tt : TT}

theorem TTok.bool {t : TypeId} (hT : TTok P tt) (h : (tt.at t).kind = .bool) : P.underlying t = some .bool := by
  have := hT.under t
  rw [h] at this
  exact this

theorem run_equalIn_bool {t : TypeId} (hu : P.underlying t = some .bool) (d : Nat) (a b : Bool) : (Op.equalIn (d + 1) t (.bool a) (.bool b)).run P w = .ok (a == b) w := by
  simp [Op.equalIn, run_underlying hu, Sem.run_pure]
theorem run_eql_bool [Base] {t : TypeId} (hu : P.underlying t = some .bool) (a b : Bool) : (Go.binOp .eql t (.bool a) (.bool b)).run P w = .ok (.bool (a == b)) w := by
  have h := run_equalIn_bool (P := P) (w := w) hu 9999 a b
  show ((do pure (.bool (← Op.equalIn (9999 + 1) t (.bool a) (.bool b)))) : Sem Value).run P w = _
  simp only [Sem.run_bind, h, Result.andThen_ok, Sem.run_pure]
theorem run_neq_bool [Base] {t : TypeId} (hu : P.underlying t = some .bool) (a b : Bool) : (Go.binOp .neq t (.bool a) (.bool b)).run P w = .ok (.bool (!(a == b))) w := by
  have h := run_equalIn_bool (P := P) (w := w) hu 9999 a b
  show ((do pure (.bool (!(← Op.equalIn (9999 + 1) t (.bool a) (.bool b))))) : Sem Value).run P w = _
  simp only [Sem.run_bind, h, Result.andThen_ok, Sem.run_pure]

theorem binop_sound [Base] (hT : TTok P tt) {t : TypeId} {op : BinOp} {x y : V} {cx cy : Value} {xo yo : Operand} {K : V → Option ρ}
    (h : binop (match (tt.at t).kind with | .bool => true | _ => false) op x y K = some r) (hx : RV F w m bs x cx) (hy : RV F w m bs y cy) :
    ∃ v cv, K v = some r ∧ RV F w m bs v cv ∧ (do eqGuard op t xo yo cx cy; Go.binOp op t cx cy : Sem Value).run P w = .ok cv w := by
  have key : ∀ cx' cy', (∀ a, cx' ≠ .agg a) → cx' ≠ .nilIface → ∀ cv, (Go.binOp op t cx' cy').run P w = .ok cv w → (do eqGuard op t xo yo cx' cy'; Go.binOp op t cx' cy' : Sem Value).run P w = .ok cv w := by
    intro cx' cy' h1 h2 cv hb
    have : (eqGuard op t xo yo cx' cy').run P w = .ok () w := by
      unfold eqGuard
      cases op <;> simp [Sem.run_pure] <;> (split <;> first | rfl | (exact absurd rfl h2) | (exact absurd rfl (h1 _)) | simp [Sem.run_pure])
    simp [this, hb]
  cases x <;> cases y <;> try (cases op <;> simp [binop] at h; done)
  case int.int k n k' n' =>
    obtain rfl := RV.int_inv hx
    obtain rfl := RV.int_inv hy
    by_cases hs : op = .shl ∨ op = .shr
    · have h' : shift op k n n' K = some r := by rcases hs with rfl | rfl <;> exact h
      obtain ⟨v, cv, hv, hr, hrun⟩ := shift_sound (F := F) (m := m) (bs := bs) (P := P) (w := w) t (k' := k') h'
      exact ⟨v, cv, hv, hr, key _ _ (by simp) (by simp) _ hrun⟩
    · have h' : (bif decide (k = k') then arith op k n n' K else none) = some r := by
        cases op <;> first | exact h | (exact absurd (.inl rfl) hs) | (exact absurd (.inr rfl) hs)
      simp only [Bool.cond_decide] at h'
      split at h'
      · rename_i hk
        subst hk
        obtain ⟨v, cv, hv, hr, hrun⟩ := arith_sound (F := F) (m := m) (bs := bs) (P := P) (w := w) t h' ⟨fun e => hs (.inl e), fun e => hs (.inr e)⟩
        exact ⟨v, cv, hv, hr, key _ _ (by simp) (by simp) _ hrun⟩
      · cases h'
  case str.str s s' =>
    obtain rfl := RV.str_inv hx
    obtain rfl := RV.str_inv hy
    have h' : text op s s' K = some r := by cases op <;> first | exact h | (simp [binop] at h; done)
    obtain ⟨v, cv, hv, hr, hrun⟩ := text_sound (F := F) (m := m) (bs := bs) (P := P) (w := w) t h'
    exact ⟨v, cv, hv, hr, key _ _ (by simp) (by simp) _ hrun⟩
  case bool.bool b b' =>
    obtain rfl := RV.bool_inv hx
    obtain rfl := RV.bool_inv hy
    cases op <;> simp only [binop] at h <;> try (cases h; done)
    all_goals
      rw [cond_eq_ite] at h
      split at h
      · rename_i hb
        have hu := hT.bool hb
        refine ⟨_, _, h, rfl, key _ _ (by simp) (by simp) _ ?_⟩
        first | exact run_eql_bool hu _ _ | exact run_neq_bool hu _ _
      · cases h
end
end Go.Lin
end

/- How the state's likeness to memory lasts over what is made, stored and frozen. -/
section
namespace Go.Lin

variable {F F' : Fz} {w w' : World} {m m' : Nat → Value} {bs bs' : List Box} {O : Nat → Prop} {σ : St} {a : Act}

theorem blk_own (v : Value) (h : ∀ a, v ≠ .pointer a) : blk v = v.ownBlock := by
  cases v with
  | pointer a => exact absurd rfl (h a)
  | slice a n c => cases a <;> rfl
  | _ => rfl
theorem ownsRow_blk {base : Nat} {e : TypeId} {size : Nat} {v : Value} {n : Nat} {xs : List Value} (h : w.ownsRow base e size v n xs) : blk v = v.ownBlock := by
  rcases h.2 with ⟨rfl, _⟩ | ⟨g, cap, cur, rfl, _⟩ <;> rfl
theorem ownsRow_move {base : Nat} {e : TypeId} {size : Nat} {v : Value} {n : Nat} {xs : List Value} (h : w.ownsRow base e size v n xs) (hh : ∀ g, blk v = some g → w'.heap[g]? = w.heap[g]?) : w'.ownsRow base e size v n xs := by
  refine ⟨h.1, ?_⟩
  rcases h.2 with hn | ⟨g, cap, cur, rfl, hb, hgg, rest⟩
  · exact .inl hn
  · exact .inr ⟨g, cap, cur, rfl, hb, (hh g rfl).trans hgg, rest⟩
theorem ownsRow_lt [Base] {base : Nat} {e : TypeId} {size : Nat} {v : Value} {n : Nat} {xs : List Value} (h : w.ownsRow base e size v n xs) {g : Nat} (hg : blk v = some g) : g < w.heap.size := by
  rw [ownsRow_blk h] at hg
  exact (h.lt g hg).2

theorem RB.lt [Base] {b : Nat} {x : Box} (h : RB F w m bs b x) (hl : x.live = true) {g : Nat} (hg : blk (m b) = some g) : g < w.heap.size := by
  cases x with
  | cells t cs =>
    obtain ⟨g', arr, hm, hh, _⟩ := h
    rw [hm] at hg
    injection hg with hg
    subst hg
    exact (Array.getElem?_eq_some_iff.1 hh).1
  | row e t l =>
    obtain ⟨xs, ho, _⟩ := h
    exact ownsRow_lt ho hg
  | _ => cases hl

theorem RB.notF {b : Nat} {x : Box} (h : RB F w m bs b x) (hl : x.live = true) {g : Nat} (hg : blk (m b) = some g) : ¬ F g := by
  cases x with
  | cells t cs =>
    obtain ⟨g', arr, hm, hh, _, hf⟩ := h
    rw [hm] at hg
    injection hg with hg
    subst hg
    exact hf
  | row e t l =>
    obtain ⟨xs, ho, _, hf⟩ := h
    exact hf g hg
  | _ => cases hl

theorem RB.later [Base] {b : Nat} {x : Box} (h : RB F w m bs b x) (L : Later F F' w w' m m' bs bs') (hb : b < bs.length)
    (hh : x.live = true → ∀ g, blk (m b) = some g → w'.heap[g]? = w.heap[g]? ∧ ¬ F' g) : RB F' w' m' bs' b x := by
  cases x with
  | cells t cs =>
    obtain ⟨g, arr, hm, hg, hc, hf⟩ := h
    have hx := hh rfl g (by rw [hm]; rfl)
    exact ⟨g, arr, (L.hd b hb).trans hm, hx.1.trans hg, hc.mono fun _ _ h => h.later L, hx.2⟩
  | row e t l =>
    obtain ⟨xs, ho, hr, hf⟩ := h
    refine ⟨xs, ?_, hr.later L.fz L.blk, fun g hg => (hh rfl g (by rw [← L.hd b hb]; exact hg)).2⟩
    rw [L.hd b hb]
    exact ownsRow_move ho fun g hg => (hh rfl g hg).1
  | frow e t l =>
    show Rep F' w' (.slice e t) l [m' b]
    rw [L.hd b hb]
    exact Rep.mono h L.fz L.blk
  | dead => exact trivial

theorem get_lt {α : Type} {l : List α} {i : Nat} {x : α} (h : l[i]? = some x) : i < l.length := by
  rcases Nat.lt_or_ge i l.length with h' | h'
  · exact h'
  · rw [List.getElem?_eq_none h'] at h; cases h
theorem getD_of_get {α : Type} {l : List α} {i : Nat} {x d : α} (h : l[i]? = some x) : l.getD i d = x := by simp [List.getD_eq_getElem?_getD, h]
theorem get_of_getD {l : List Box} {i : Nat} {x : Box} (h : l.getD i .dead = x) (hx : x ≠ .dead) : l[i]? = some x := by
  rw [List.getD_eq_getElem?_getD] at h
  cases hi : l[i]? with
  | none => rw [hi] at h; exact absurd h.symm hx
  | some y => rw [hi] at h; simpa using h

theorem RBs.owned_lt [Base] (h : RBs F w m bs) {g : Nat} (ho : Owned m bs g) : g < w.heap.size := by
  obtain ⟨b, x, hb, hl, hg⟩ := ho
  exact (h.box b x hb).lt hl hg
theorem RBs.owned_notF [Base] (h : RBs F w m bs) {g : Nat} (ho : Owned m bs g) : ¬ F g := by
  obtain ⟨b, x, hb, hl, hg⟩ := ho
  exact (h.box b x hb).notF hl hg

def upd (m : Nat → Value) (b : Nat) (v : Value) : Nat → Value := fun i => if i = b then v else m i
theorem upd_same (m : Nat → Value) (b : Nat) (v : Value) : upd m b v b = v := by simp [upd]
theorem upd_lt (m : Nat → Value) (b : Nat) (v : Value) {i : Nat} (h : i < b) : upd m b v i = m i := by simp [upd, Nat.ne_of_lt h]

theorem Later.new [Base] {hv : Value} {x : Box} (hw : ∀ g, F g → w'.heap[g]? = w.heap[g]?) : Later F F w w' m (upd m bs.length hv) bs (bs ++ [x]) :=
  ⟨fun _ h => h, hw, by simp, fun b hb => by
    have : (bs ++ [x]).getD b .dead = bs.getD b .dead := by simp [List.getD_eq_getElem?_getD, List.getElem?_append_left hb]
    rw [this]; exact Box.le_refl _, fun b hb => upd_lt _ _ _ hb⟩

/-- A new box. -/
theorem RBs.new [Base] (h : RBs F w m bs) {hv : Value} {x : Box} (hsz : w.heap.size ≤ w'.heap.size) (hw : ∀ g, g < w.heap.size → w'.heap[g]? = w.heap[g]?)
    (hx : RB F w' (upd m bs.length hv) (bs ++ [x]) bs.length x) (hnew : x.live = true → ∀ g, blk hv = some g → ¬ Owned m bs g) : RBs F w' (upd m bs.length hv) (bs ++ [x]) := by
  have L : Later F F w w' m (upd m bs.length hv) bs (bs ++ [x]) := Later.new fun g hg => hw g (h.fz g hg)
  refine ⟨fun b y hb => ?_, fun b b' y y' g hb hb' hl hl' hne hg hg' => ?_, fun g hg => Nat.lt_of_lt_of_le (h.fz g hg) hsz, Base.later (fun _ h => h) L.blk h.glob⟩
  · rcases Nat.lt_or_ge b bs.length with hlt | hge
    · rw [List.getElem?_append_left hlt] at hb
      exact (h.box b y hb).later L hlt fun hl g hg => ⟨hw g ((h.box b y hb).lt hl hg), (h.box b y hb).notF hl hg⟩
    · have := get_lt hb
      simp at this
      obtain rfl : b = bs.length := by omega
      simp at hb
      subst hb
      exact hx
  · rcases Nat.lt_or_ge b bs.length with hlt | hge <;> rcases Nat.lt_or_ge b' bs.length with hlt' | hge'
    · rw [List.getElem?_append_left hlt] at hb
      rw [List.getElem?_append_left hlt'] at hb'
      rw [upd_lt _ _ _ hlt] at hg
      rw [upd_lt _ _ _ hlt'] at hg'
      exact h.apart b b' y y' g hb hb' hl hl' hne hg hg'
    · have := get_lt hb'
      simp at this
      obtain rfl : b' = bs.length := by omega
      rw [List.getElem?_append_left hlt] at hb
      simp at hb'
      subst hb'
      rw [upd_lt _ _ _ hlt] at hg
      rw [upd_same] at hg'
      exact hnew hl' g hg' ⟨b, y, hb, hl, hg⟩
    · have := get_lt hb
      simp at this
      obtain rfl : b = bs.length := by omega
      rw [List.getElem?_append_left hlt'] at hb'
      simp at hb
      subst hb
      rw [upd_lt _ _ _ hlt'] at hg'
      rw [upd_same] at hg
      exact hnew hl g hg ⟨b', y', hb', hl', hg'⟩
    · have := get_lt hb
      have := get_lt hb'
      simp at *
      omega

theorem Owned.new [Base] {hv : Value} {x : Box} (h : ∀ g, Owned m bs g → O g) (hx : x.live = true → ∀ g, blk hv = some g → O g) : ∀ g, Owned (upd m bs.length hv) (bs ++ [x]) g → O g := by
  rintro g ⟨b, y, hb, hl, hg⟩
  rcases Nat.lt_or_ge b bs.length with hlt | hge
  · rw [List.getElem?_append_left hlt] at hb
    rw [upd_lt _ _ _ hlt] at hg
    exact h g ⟨b, y, hb, hl, hg⟩
  · have := get_lt hb
    simp at this
    obtain rfl : b = bs.length := by omega
    simp at hb
    subst hb
    rw [upd_same] at hg
    exact hx hl g hg

theorem Rel.new [Base] (h : Rel O F m σ a w) {hv : Value} {x : Box} (hsz : w.heap.size ≤ w'.heap.size) (hw : ∀ g, g < w.heap.size → w'.heap[g]? = w.heap[g]?)
    (hx : RB F w' (upd m σ.boxes.length hv) (σ.boxes ++ [x]) σ.boxes.length x) (hnew : x.live = true → ∀ g, blk hv = some g → w.heap.size ≤ g) (hO : ∀ g, w.heap.size ≤ g → O g) :
    Rel O F (upd m σ.boxes.length hv) (σ.newBox x) a w' :=
  ⟨h.slots.mono fun _ _ hv => hv.later (Later.new fun g hg => hw g (h.boxes.fz g hg)), h.boxes.new hsz hw hx fun hl g hg ho => by
    have := hnew hl g hg
    have := h.boxes.owned_lt ho
    omega, Owned.new h.own fun hl g hg => hO g (hnew hl g hg), h.defers⟩

/-! ### a box is written -/
theorem Later.set [Base] {b : Nat} {x x' : Box} (hb : bs[b]? = some x) (hle : Box.le x x') (hw : ∀ g, F g → w'.heap[g]? = w.heap[g]?) (hF : ∀ g, F g → F' g) : Later F F' w w' m m bs (bs.set b x') :=
  ⟨hF, hw, by simp, fun i hi => by
    by_cases e : i = b
    · subst e
      have e1 : bs.getD i .dead = x := getD_of_get hb
      have e2 : (bs.set i x').getD i .dead = x' := getD_of_get (by rw [List.getElem?_set_self hi])
      rw [e1, e2]
      exact hle
    · have : (bs.set b x').getD i .dead = bs.getD i .dead := by simp [List.getD_eq_getElem?_getD, Ne.symm e]
      rw [this]; exact Box.le_refl _, fun _ _ => rfl⟩

theorem RBs.set [Base] (h : RBs F w m bs) {b : Nat} {x x' : Box} (hb : bs[b]? = some x) (hle : Box.le x x') (hl0 : x.live = true) (hsz : w.heap.size ≤ w'.heap.size)
    (hF : ∀ g, F g → F' g) (hF' : ∀ g, F' g → F g ∨ blk (m b) = some g)
    (hw : ∀ g, g < w.heap.size → blk (m b) ≠ some g → w'.heap[g]? = w.heap[g]?) (hx : RB F' w' m (bs.set b x') b x') : RBs F' w' m (bs.set b x') := by
  have hwF : ∀ g, F g → w'.heap[g]? = w.heap[g]? := fun g hg => hw g (h.fz g hg) fun e => (h.box b x hb).notF hl0 e hg
  have L : Later F F' w w' m m bs (bs.set b x') := Later.set hb hle hwF hF
  have old : ∀ i y, (bs.set b x')[i]? = some y → i ≠ b → bs[i]? = some y := by
    intro i y hi hne
    rwa [List.getElem?_set_ne (Ne.symm hne)] at hi
  have here : ∀ y, (bs.set b x')[b]? = some y → y = x' := by
    intro y hy
    rw [List.getElem?_set_self (get_lt hb)] at hy
    exact (Option.some.inj hy).symm
  have live' : x'.live = true → x.live = true := fun _ => hl0
  refine ⟨fun i y hi => ?_, fun i i' y y' g hi hi' hl hl' hne hg hg' => ?_, fun g hg => ?_, Base.later hF hwF h.glob⟩
  · by_cases e : i = b
    · subst e
      obtain rfl := here y hi
      exact hx
    · have hi0 := old i y hi e
      refine (h.box i y hi0).later L (get_lt hi0) fun hl g hg => ⟨hw g ((h.box i y hi0).lt hl hg) fun e' => h.apart i b y x g hi0 hb hl hl0 e hg e', fun hf => ?_⟩
      rcases hF' g hf with hf | hf
      · exact (h.box i y hi0).notF hl hg hf
      · exact h.apart i b y x g hi0 hb hl hl0 e hg hf
  · have e1 : ∃ z, bs[i]? = some z ∧ z.live = true := by
      by_cases e : i = b
      · subst e; exact ⟨x, hb, hl0⟩
      · exact ⟨y, old i y hi e, hl⟩
    have e2 : ∃ z, bs[i']? = some z ∧ z.live = true := by
      by_cases e : i' = b
      · subst e; exact ⟨x, hb, hl0⟩
      · exact ⟨y', old i' y' hi' e, hl'⟩
    obtain ⟨z, hz, hzl⟩ := e1
    obtain ⟨z', hz', hzl'⟩ := e2
    exact h.apart i i' z z' g hz hz' hzl hzl' hne hg hg'
  · rcases hF' g hg with hf | hf
    · exact Nat.lt_of_lt_of_le (h.fz g hf) hsz
    · exact Nat.lt_of_lt_of_le ((h.box b x hb).lt hl0 hf) hsz

theorem Owned.set {b : Nat} {x x' : Box} (hb : bs[b]? = some x) (hl0 : x.live = true) (h : ∀ g, Owned m bs g → O g) : ∀ g, Owned m (bs.set b x') g → O g := by
  rintro g ⟨i, y, hi, hl, hg⟩
  by_cases e : i = b
  · subst e
    exact h g ⟨i, x, hb, hl0, hg⟩
  · rw [List.getElem?_set_ne (Ne.symm e)] at hi
    exact h g ⟨i, y, hi, hl, hg⟩

theorem Rel.set [Base] (h : Rel O F m σ a w) {b : Nat} {x x' : Box} (hb : σ.boxes[b]? = some x) (hle : Box.le x x') (hl0 : x.live = true) (hsz : w.heap.size ≤ w'.heap.size)
    (hF : ∀ g, F g → F' g) (hF' : ∀ g, F' g → F g ∨ blk (m b) = some g)
    (hw : ∀ g, g < w.heap.size → blk (m b) ≠ some g → w'.heap[g]? = w.heap[g]?) (hx : RB F' w' m (σ.boxes.set b x') b x') : Rel O F' m (σ.setBox b x') a w' :=
  have hwF : ∀ g, F g → w'.heap[g]? = w.heap[g]? := fun g hg => hw g (h.boxes.fz g hg) fun e => (h.boxes.box b x hb).notF hl0 e hg
  ⟨h.slots.mono fun _ _ hv => hv.later (Later.set hb hle hwF hF), h.boxes.set hb hle hl0 hsz hF hF' hw hx, Owned.set hb hl0 h.own, h.defers⟩

theorem Later.grow [Base] {b : Nat} {y x : Box} {hv : Value} (hb : bs[b]? = some y) (hw : ∀ g, F g → w'.heap[g]? = w.heap[g]?) : Later F F w w' m (upd m bs.length hv) bs (bs.set b .dead ++ [x]) :=
  ⟨fun _ h => h, hw, by simp, fun i hi => by
    have h1 := (Later.set (F := F) (F' := F) (w := w) (w' := w) (m := m) (x' := .dead) hb (by cases y <;> trivial) (fun _ _ => rfl) fun _ h => h).le i hi
    have : (bs.set b .dead ++ [x]).getD i .dead = (bs.set b .dead).getD i .dead := by simp [List.getD_eq_getElem?_getD, List.getElem?_append_left (show i < (bs.set b .dead).length by simpa using hi)]
    rw [this]; exact h1, fun b hb => upd_lt _ _ _ hb⟩

/-- A row grows: the old box dies, a new one stands for what is there now. -/
theorem Rel.grow [Base] (h : Rel O F m σ a w) {b : Nat} {e : TypeId} {t : Ty} {l : List t.D} (hb : σ.boxes[b]? = some (.row e t l)) {hv : Value} {e' : TypeId} {t' : Ty} {l' : List t'.D}
    (hsz : w.heap.size ≤ w'.heap.size) (hw : ∀ g, g < w.heap.size → blk (m b) ≠ some g → w'.heap[g]? = w.heap[g]?)
    (hat : ∀ g, blk hv = some g → blk (m b) = some g ∨ w.heap.size ≤ g) (hO : ∀ g, w.heap.size ≤ g → O g)
    (hx : RB F w' (upd m σ.boxes.length hv) ((σ.setBox b .dead).boxes ++ [.row e' t' l']) σ.boxes.length (.row e' t' l')) :
    Rel O F (upd m σ.boxes.length hv) ((σ.setBox b .dead).newBox (.row e' t' l')) a w' := by
  have hlen : (σ.setBox b .dead).boxes.length = σ.boxes.length := by simp [St.setBox]
  have h1 : Rel O F m (σ.setBox b .dead) a w' := h.set hb trivial rfl hsz (fun _ h => h) (fun _ h => .inl h) hw trivial
  have hno : ∀ g, blk hv = some g → ¬ Owned m (σ.setBox b .dead).boxes g := by
    rintro g hg ⟨i, y, hi, hl, hgi⟩
    by_cases e : i = b
    · subst e
      have : (σ.setBox i .dead).boxes[i]? = some .dead := by simp [St.setBox, get_lt hb]
      rw [this] at hi
      injection hi with hi
      subst hi
      cases hl
    · have hi' : σ.boxes[i]? = some y := by
        have : (σ.boxes.set b .dead)[i]? = some y := hi
        rwa [List.getElem?_set_ne (Ne.symm e)] at this
      rcases hat g hg with hc | hc
      · exact h.boxes.apart i b y _ g hi' hb hl rfl e hgi hc
      · have := (h.boxes.box i y hi').lt hl hgi
        omega
  refine ⟨h1.slots.mono fun _ _ hv => hv.later (hlen ▸ Later.new fun _ _ => rfl), hlen ▸ h1.boxes.new (Nat.le_refl _) (fun _ _ => rfl) (by rw [hlen]; exact hx) fun _ g hg => hno g hg, ?_, h.defers⟩
  rw [← hlen]
  refine Owned.new h1.own fun _ g hg => ?_
  rcases hat g hg with hc | hc
  · exact h.own g ⟨b, _, hb, rfl, hc⟩
  · exact hO g hc
end Go.Lin
end

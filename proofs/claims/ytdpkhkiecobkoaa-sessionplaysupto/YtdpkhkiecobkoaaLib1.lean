import Derived.CallsIn
import Derived.RangeFuncIn
import Derived.Laws.IdiomCopy
import Derived.Laws.Append
import Derived.Laws.Cells
import Derived.Laws.Rows
import Derived.Laws.Tables
import Derived.Laws.Small
import Derived.Laws.Slices
import Derived.Laws.StructEq
import Derived.Laws.BytesArg
import Derived.Laws.CopyRow
import Derived.Laws.MakeOwn
import Derived.Laws.AppendOwn
set_option linter.all false
/-
  Abs: abstract values and an evaluator over them. What it computes is tied to the machine in later files.
-/
namespace Go.Abs

/-- What is known of a slice's spare cells: nothing; there are none; they are the call's own (by token). -/
inductive Room where
  | unk | full | own (t : Nat)
  deriving DecidableEq, Inhabited

/-- Abstract values: slices are lists of elements, structs are lists of cells. -/
inductive AV where
  | bool (b : Bool)
  | int (k : IntKind) (n : Int)
  | str (s : ByteArray)
  | nilp
  | ptr (id off : Nat)
  | eptr (cs : List AV)
  | slice (isnil : Bool) (sz : Nat) (es : List AV) (rm : Room)
  | sref (id off len cap : Nat)
  | func (fn : Fn) (first captured : List AV)
  | nilf
  | iface (t : TypeId) (v : AV)
  | nili
  | agg (cs : List AV)
  | tup (vs : List AV)
  deriving Inhabited

abbrev AV.undef : AV := .tup []
def AV.cells : AV → List AV
  | .agg cs => cs
  | v => [v]
def AV.scalar : AV → Bool
  | .agg _ | .tup _ => false
  | _ => true

/-- bind, under a name of its own (the reckoning goes into its first part alone) -/
def ob {α β : Type} (x : Option α) (f : α → Option β) : Option β := match x with | some a => f a | none => none

/-! #### the text that is evaluated -/
inductive Src where
  | slot (t : Nat)
  | lit (v : AV)
  deriving Inhabited

/-- how two values of a type are compared -/
inductive EqD where
  | bool | int | str | ptr | slice | func
  | struct (fs : List (Nat × Nat × Bool × EqD))
  deriving Inhabited

inductive ConvK where
  | int (k : IntKind) | str | toBytes | ofBytes
  deriving Inhabited

/-- what is sliced or indexed: a string, a slice (an element's cells), an array (its length, an element's cells, whether an element is a struct or array) -/
inductive SeqK where
  | str | slice (sz : Nat) | arr (n sz : Nat) (agg : Bool)
  deriving Inhabited

inductive IOp where
  | mov (x : Src)
  | pick (c a b : Src)
  | alloc (zero : List AV)
  | box (x : Src)
  | build (zero : List AV) (parts : List (Nat × Nat × Src))
  | bslice (sz : Nat) (z : AV) (len : Nat) (parts : List (Nat × Src))
  | load (sz : Nat) (agg : Bool) (a : Src)
  | store (sz : Nat) (a x : Src)
  | nilck (x : Src)
  | bin (op : BinOp) (d : Option EqD) (x y : Src)
  | un (op : UnOp) (x : Src)
  | conv (k : ConvK) (x : Src)
  | mkIface (t : TypeId) (x : Src)
  | mkFunc (f : FuncId) (first captured : List Src)
  | mkSlice (z : AV) (bytes : Nat) (l c : Src)
  | sl (k : SeqK) (x : Src) (lo hi mx : Option Src)
  | faddr (off : Nat) (x : Src)
  | field (off sz : Nat) (agg : Bool) (x : Src)
  | iaddr (k : SeqK) (x i : Src)
  | idx (k : SeqK) (x i : Src)
  | extract (x : Src) (i : Nat)
  | len (k : SeqK) (x : Src)
  | cap (x : Src)
  | minmax (mx : Bool) (xs : List Src)
  | append (sz bytes : Nat) (s x : Src)
  | call (f : Src) (args : List Src)
  | pcall (f : Src) (args : List Src)
  | bad
  deriving Inhabited

structure IOper where
  dst : Option Nat
  op : IOp
  guard : Option (Nat × Bool)
  deriving Inhabited

inductive IC where
  | skip
  | reg (ops : List IOper) (keep : List Nat) (pop : Bool)
  | regd (zs : List (List AV)) (ops : List (IOper × Option Nat)) (pairs : List (Nat × Nat)) (keep : List Nat) (pop : Bool)
  | seq (a b : IC)
  | cond (c : Src) (t e : IC)
  | block (id : Nat) (c : IC)
  | loop (c : IC)
  | scope (c : IC)
  | exit (id : Nat)
  | ret
  deriving Inhabited

/-! #### heap and state -/
structure Blk where
  made : Bool
  cs : List AV
  deriving Inhabited

structure AH where
  blocks : List (Option Blk)
  toks : List Nat
  deriving Inhabited

def AH.empty : AH := ⟨[], []⟩
def AH.get (h : AH) (id : Nat) : Option Blk := match h.blocks[id]? with | some b => b | none => none
def AH.set (h : AH) (id : Nat) (b : Option Blk) : AH := ⟨h.blocks.set id b, h.toks⟩
def AH.push (h : AH) (b : Blk) : AH := ⟨h.blocks ++ [some b], h.toks⟩
def AH.size (h : AH) : Nat := h.blocks.length

structure St where
  σ : Nat → Option AV
  h : AH

def upd (d : Nat) (v : AV) (σ : Nat → Option AV) : Nat → Option AV := fun t => if d = t then some v else σ t
def ofList : List (Nat × AV) → Nat → Option AV
  | [], _ => none
  | (k, v) :: r, t => if k = t then some v else ofList r t

def src (σ : Nat → Option AV) : Src → Option AV
  | .slot t => σ t
  | .lit v => some v
def srcs (σ : Nat → Option AV) : List Src → Option (List AV)
  | [] => some []
  | x :: r => ob (src σ x) fun v => ob (srcs σ r) fun l => some (v :: l)

inductive CMode where
  | pure | keep | heap
  deriving DecidableEq, Inhabited

structure IFn where
  nt : Nat
  results : List (Nat ⊕ (Nat × Nat × Bool))   -- a slot; or a cell's address, size, and whether it is a struct
  body : IC
  deriving Inhabited

structure Cfg where
  fn : FuncId → Option IFn
  mode : FuncId → CMode
  prim : FuncId → Option (List AV → AH → Option (AV × AH)) := fun _ => none

/-! #### references -/
mutual
def AV.refs (nb nt : Nat) : AV → Bool      -- no block from nb on, no token from nt on
  | .ptr id _ => decide (id < nb)
  | .sref id _ _ _ => decide (id < nb)
  | .eptr cs => refsAll nb nt cs
  | .slice _ _ es rm => (match rm with | .own t => decide (t < nt) | _ => true) && refsAll nb nt es
  | .func _ f c => refsAll nb nt f && refsAll nb nt c
  | .iface _ v => AV.refs nb nt v
  | .agg cs => refsAll nb nt cs
  | .tup vs => refsAll nb nt vs
  | _ => true
def refsAll (nb nt : Nat) : List AV → Bool
  | [] => true
  | v :: r => AV.refs nb nt v && refsAll nb nt r
end

def Room.strip : Room → Room | .own _ => .unk | r => r
/-! tokens forgotten -/
mutual
def AV.strip : AV → AV
  | .eptr cs => .eptr (stripAll cs)
  | .slice n sz es rm => .slice n sz (stripAll es) rm.strip
  | .func fn f c => .func fn (stripAll f) (stripAll c)
  | .iface t v => .iface t (AV.strip v)
  | .agg cs => .agg (stripAll cs)
  | .tup vs => .tup (stripAll vs)
  | v => v
def stripAll : List AV → List AV
  | [] => []
  | v :: r => AV.strip v :: stripAll r
end

/-! #### operations -/
def shapeOf (sz : Nat) (agg : Bool) (s : List AV) : Option AV :=
  if s.length = sz then (if agg then some (.agg s) else match s with | [c] => some c | _ => none) else none

def aLoad (sz : Nat) (agg : Bool) (h : AH) : AV → Option AV
  | .ptr id off => ob (h.get id) fun b => shapeOf sz agg ((b.cs.drop off).take sz)
  | .eptr cs => shapeOf sz agg (cs.take sz)
  | _ => none

def overwrite (cs : List AV) (off : Nat) (vs : List AV) : List AV := cs.take off ++ (vs ++ cs.drop (off + vs.length))

def aStore (sz : Nat) (h : AH) (a v : AV) : Option AH :=
  match a with
  | .ptr id off => ob (h.get id) fun b =>
      if v.cells.length = sz ∧ v.cells.all AV.scalar = true ∧ off + v.cells.length ≤ b.cs.length
      then some (h.set id (some ⟨b.made, overwrite b.cs off v.cells⟩)) else none
  | _ => none

/-- parts put in their places -/
def fillA (σ : Nat → Option AV) (cells : List AV) : List (Nat × Nat × Src) → Option (List AV)
  | [] => some cells
  | (off, sz, x) :: rest => ob (src σ x) fun v =>
      if v.cells.length = sz ∧ off + v.cells.length ≤ cells.length then fillA σ (overwrite cells off v.cells) rest else none

def setAll (σ : Nat → Option AV) (sz : Nat) (es : List AV) : List (Nat × Src) → Option (List AV)
  | [] => some es
  | (i, x) :: rest => ob (src σ x) fun v =>
      if v.cells.length = sz ∧ v.cells.all AV.scalar = true ∧ i < es.length then setAll σ sz (es.set i v) rest else none

def optInt (σ : Nat → Option AV) : Option Src → Option (Option Int)
  | none => some none
  | some x => ob (src σ x) fun | .int _ n => some (some n) | _ => none

def aSlice (k : SeqK) (x : AV) (lo hi mx : Option Int) : Option AV :=
  match k, x with
  | .str, .str s =>
    if mx.isNone ∧ 0 ≤ lo.getD 0 ∧ lo.getD 0 ≤ hi.getD s.size ∧ hi.getD s.size ≤ s.size then some (.str (s.extract (lo.getD 0).toNat (hi.getD s.size).toNat)) else none
  | .slice ssz, .slice nl sz es rm =>
    match mx, hi with
    | some m, some h =>
      if 0 ≤ lo.getD 0 ∧ lo.getD 0 ≤ h ∧ h ≤ m ∧ m ≤ es.length ∧ (sz = ssz ∨ es.isEmpty) then
        some (.slice nl sz ((es.take h.toNat).drop (lo.getD 0).toNat) (if m = h then .full else .unk)) else none
    | some _, none => none
    | none, hi =>
      if 0 ≤ lo.getD 0 ∧ lo.getD 0 ≤ hi.getD es.length ∧ hi.getD es.length ≤ es.length ∧ (sz = ssz ∨ es.isEmpty) then
        some (.slice nl sz ((es.take (hi.getD es.length).toNat).drop (lo.getD 0).toNat)
          (if hi.getD es.length = es.length then (if lo.getD 0 = 0 then rm else if rm = .full then .full else .unk) else .unk)) else none
  | .slice ssz, .sref id off len cap =>
    if (mx.isSome → hi.isSome) ∧ 0 ≤ lo.getD 0 ∧ lo.getD 0 ≤ hi.getD len ∧ hi.getD len ≤ mx.getD cap ∧ mx.getD cap ≤ cap then
      some (.sref id (if mx.getD cap = lo.getD 0 then off else off + (lo.getD 0).toNat * ssz) (hi.getD len - lo.getD 0).toNat (mx.getD cap - lo.getD 0).toNat) else none
  | .arr n ssz _, .ptr id off =>
    if (mx.isSome → hi.isSome) ∧ 0 ≤ lo.getD 0 ∧ lo.getD 0 ≤ hi.getD n ∧ hi.getD n ≤ mx.getD n ∧ mx.getD n ≤ n then
      some (.sref id (if mx.getD n = lo.getD 0 then off else off + (lo.getD 0).toNat * ssz) (hi.getD n - lo.getD 0).toNat (mx.getD n - lo.getD 0).toNat) else none
  | _, _ => none

def aIndexAddr (k : SeqK) (x : AV) (i : Int) : Option AV :=
  match k, x with
  | .slice ssz, .slice _ sz es _ =>
    if 0 ≤ i ∧ i < es.length ∧ sz = ssz then ob (es[i.toNat]?) fun v => some (.eptr v.cells) else none
  | .slice ssz, .sref id off len _ =>
    if 0 ≤ i ∧ i < len then some (.ptr id (off + i.toNat * ssz)) else none
  | .arr n ssz _, .ptr id off =>
    if 0 ≤ i ∧ i < n then some (.ptr id (off + i.toNat * ssz)) else none
  | .arr n ssz _, .eptr cs =>
    if 0 ≤ i ∧ i < n then some (.eptr (cs.drop (i.toNat * ssz))) else none
  | _, _ => none

def aIndex (k : SeqK) (x : AV) (i : Int) : Option AV :=
  match k, x with
  | .str, .str s => if 0 ≤ i then ob (s[i.toNat]?) fun b => some (.int .u8 b.toNat) else none
  | .arr n ssz agg, .agg cs =>
    if 0 ≤ i ∧ i < n then shapeOf ssz agg ((cs.drop (i.toNat * ssz)).take ssz) else none
  | _, _ => none

/-- '==' -/
def aEq : EqD → AV → AV → Option Bool
  | .bool, .bool a, .bool b => some (a == b)
  | .int, .int k a, .int k' b => if k = k' then some (a == b) else none
  | .str, .str a, .str b => some (a == b)
  | .ptr, .nilp, .nilp => some true
  | .ptr, .nilp, .ptr _ _ => some false
  | .ptr, .ptr _ _, .nilp => some false
  | .slice, .slice true _ _ _, .slice b _ _ _ => some b
  | .slice, .slice b _ _ _, .slice true _ _ _ => some b
  | .slice, .slice true _ _ _, .sref _ _ _ _ => some false
  | .slice, .sref _ _ _ _, .slice true _ _ _ => some false
  | .func, .nilf, .nilf => some true
  | .func, .nilf, .func _ _ _ => some false
  | .func, .func _ _ _, .nilf => some false
  | .struct fs, .agg xs, .agg ys => go fs xs ys
  | _, _, _ => none
where
  go : List (Nat × Nat × Bool × EqD) → List AV → List AV → Option Bool
    | [], _, _ => some true
    | (off, sz, agg, d) :: r, xs, ys =>
      ob (shapeOf sz agg ((xs.drop off).take sz)) fun u => ob (shapeOf sz agg ((ys.drop off).take sz)) fun v =>
        ob (aEq d u v) fun a => ob (go r xs ys) fun b => some (a && b)

def aArith (op : BinOp) (k : IntKind) (x y : Int) : Option AV :=
  match op with
  | .add => some (.int k (k.wrap (x + y)))
  | .sub => some (.int k (k.wrap (x - y)))
  | .mul => some (.int k (k.wrap (x * y)))
  | .quo => if y = 0 then none else some (.int k (k.wrap (x.tdiv y)))
  | .rem => if y = 0 then none else some (.int k (x.tmod y))
  | .and => some (.int k (k.wrap (BitVec.ofInt k.bits x &&& BitVec.ofInt k.bits y).toNat))
  | .or => some (.int k (k.wrap (BitVec.ofInt k.bits x ||| BitVec.ofInt k.bits y).toNat))
  | .xor => some (.int k (k.wrap (BitVec.ofInt k.bits x ^^^ BitVec.ofInt k.bits y).toNat))
  | .andNot => some (.int k (k.wrap (BitVec.ofInt k.bits x &&& ~~~(BitVec.ofInt k.bits y)).toNat))
  | .eql => some (.bool (x == y))
  | .neq => some (.bool (x != y))
  | .lss => some (.bool (decide (x < y)))
  | .leq => some (.bool (decide (x ≤ y)))
  | .gtr => some (.bool (decide (x > y)))
  | .geq => some (.bool (decide (x ≥ y)))
  | .shl | .shr => none

def aShift (op : BinOp) (k : IntKind) (x y : Int) : Option AV :=
  if y < 0 then none else
  match op with
  | .shl => some (.int k (k.wrap (x * 2 ^ (min y.toNat k.bits))))
  | .shr => some (.int k (x.fdiv (2 ^ (min y.toNat k.bits))))
  | _ => none

def aStrOp (op : BinOp) (x y : ByteArray) : Option AV :=
  match op with
  | .add => if ((x.size + y.size : Nat) : Int) > IntKind.i64.max then none else some (.str (x ++ y))
  | .eql => some (.bool (x.toList == y.toList))
  | .neq => some (.bool !(x.toList == y.toList))
  | .lss => some (.bool (Op.bytesLess x.toList y.toList))
  | .leq => some (.bool (Op.bytesLess x.toList y.toList || x.toList == y.toList))
  | .gtr => some (.bool !(Op.bytesLess x.toList y.toList || x.toList == y.toList))
  | .geq => some (.bool !(Op.bytesLess x.toList y.toList))
  | _ => none

def aBin (op : BinOp) (d : Option EqD) (x y : AV) : Option AV :=
  match op, x, y with
  | .shl, .int k a, .int _ b => aShift .shl k a b
  | .shr, .int k a, .int _ b => aShift .shr k a b
  | op, .int k a, .int k' b => if k = k' then aArith op k a b else none
  | op, .str a, .str b => aStrOp op a b
  | .eql, x, y => ob d fun d => ob (aEq d x y) fun b => some (.bool b)
  | .neq, x, y => ob d fun d => ob (aEq d x y) fun b => some (.bool !b)
  | _, _, _ => none

def aUn (op : UnOp) (x : AV) : Option AV :=
  match op, x with
  | .neg, .int k n => some (.int k (k.wrap (0 - n)))
  | .xor, .int k n => some (.int k (k.wrap (BitVec.ofInt k.bits (if k.signed then -1 else k.max) ^^^ BitVec.ofInt k.bits n).toNat))
  | .not, .bool b => some (.bool !b)
  | _, _ => none

def bytesOf : List AV → Option (List UInt8)
  | [] => some []
  | .int .u8 n :: r => ob (bytesOf r) fun l => some (UInt8.ofNat n.toNat :: l)
  | _ => none

def ofBytes (s : ByteArray) : List AV := s.data.toList.map fun b => .int .u8 b.toNat

def aConv (k : ConvK) (h : AH) (x : AV) : Option AV :=
  match k, x with
  | .int k, .int _ n => some (.int k (k.wrap n))
  | .str, .str s => some (.str s)
  | .toBytes, .str s => some (.slice false 1 (ofBytes s) .unk)
  | .ofBytes, .slice _ sz es _ => if sz = 1 ∨ es.isEmpty then ob (bytesOf es) fun l => some (.str ⟨l.toArray⟩) else none
  | .ofBytes, .sref id off len _ => ob (h.get id) fun b =>
      if off + len ≤ b.cs.length then ob (bytesOf ((b.cs.drop off).take len)) fun l => some (.str ⟨l.toArray⟩) else none
  | _, _ => none

/-- append: the elements to come -/
def aElems : AV → Option (Nat × List AV)
  | .slice _ sz xs _ => some (sz, xs)
  | .str s => some (1, ofBytes s)
  | _ => none

def appendLimit : Nat := 70368744177664   -- 2^46 bytes

def aAppend (ssz bytes : Nat) (h : AH) (s : AV) (sz' : Nat) (xs : List AV) : Option (AV × AH) :=
  match s with
  | .slice nl sz es rm =>
    if xs.isEmpty then some (.slice nl sz es rm, h) else
    if ssz ≠ 0 ∧ (sz = ssz ∨ (es.isEmpty = true ∧ (nl = true ∨ rm = .full))) ∧ sz' = ssz ∧ (es.length + xs.length) * bytes ≤ appendLimit ∧ es.length + xs.length ≤ appendLimit then
      match rm with
      | .full => some (.slice false ssz (es ++ xs) (.own h.toks.length), ⟨h.blocks, h.toks ++ [es.length + xs.length]⟩)
      | .own t => if h.toks[t]? = some es.length then some (.slice false ssz (es ++ xs) (.own t), ⟨h.blocks, h.toks.set t (es.length + xs.length)⟩) else none
      | .unk => none
    else none
  | _ => none

def minMax2 (mx : Bool) : AV → AV → Option AV
  | .int k x, .int _ y => some (.int k (if mx then (if y > x then y else x) else (if y < x then y else x)))
  | _, _ => none
def minMaxL (mx : Bool) (acc : AV) : List AV → Option AV
  | [] => some acc
  | v :: r => ob (minMax2 mx acc v) fun a => minMaxL mx a r
def aMinMax (mx : Bool) : List AV → Option AV
  | [] => none
  | v :: r => minMaxL mx v r

def aLen (k : SeqK) (x : AV) : Option AV :=
  match k, x with
  | .str, .str s => some (.int .i64 s.size)
  | .slice _, .slice _ _ es _ => some (.int .i64 es.length)
  | .slice _, .sref _ _ len _ => some (.int .i64 len)
  | .arr n _ _, _ => some (.int .i64 n)
  | _, _ => none

def aCap (x : AV) : Option AV :=
  match x with
  | .slice _ _ es .full => some (.int .i64 es.length)
  | .sref _ _ _ cap => some (.int .i64 cap)
  | _ => none

def ret1 (h : AH) (x : Option AV) : Option (AV × AH) := ob x fun v => some (v, h)

def newBlk (h : AH) (aid : Option Nat) (b : Blk) : Nat × AH :=
  match aid with
  | none => (h.blocks.length, h.push b)
  | some id => (id, h)

/-- an operation that is no call of a function; 'aid': the number of the block that stands ready for it -/
def aop (σ : Nat → Option AV) (h : AH) (aid : Option Nat) : IOp → Option (AV × AH)
  | .mov x => ret1 h (src σ x)
  | .pick c a b => ob (src σ c) fun
      | .bool true => ret1 h (src σ a)
      | .bool false => ret1 h (src σ b)
      | _ => none
  | .alloc z => some (.ptr (newBlk h aid ⟨false, z⟩).1 0, (newBlk h aid ⟨false, z⟩).2)
  | .box x => ob (src σ x) fun v => if v.cells.all AV.scalar then some (.ptr (newBlk h none ⟨false, v.cells⟩).1 0, (newBlk h none ⟨false, v.cells⟩).2) else none
  | .build z ps => ob (fillA σ z ps) fun cs => some (.agg cs, h)
  | .bslice sz z n ps => ob (setAll σ sz (List.replicate n z) ps) fun es => some (.slice false sz es .full, h)
  | .load sz agg a => ob (src σ a) fun v => ret1 h (aLoad sz agg h v)
  | .store sz a x => ob (src σ a) fun v => ob (src σ x) fun u => ob (aStore sz h v u) fun h' => some (AV.undef, h')
  | .nilck x => ob (src σ x) fun
      | .ptr id off => some (.ptr id off, h)
      | .eptr cs => some (.eptr cs, h)
      | _ => none
  | .bin op d x y => ob (src σ x) fun u => ob (src σ y) fun v => ret1 h (aBin op d u v)
  | .un op x => ob (src σ x) fun u => ret1 h (aUn op u)
  | .conv k x => ob (src σ x) fun u => ret1 h (aConv k h u)
  | .mkIface t x => ob (src σ x) fun u => some (.iface t u, h)
  | .mkFunc f first captured => ob (srcs σ first) fun a => ob (srcs σ captured) fun c => some (.func (.func f) a c, h)
  | .mkSlice z bytes l c => ob (src σ l) fun u => ob (src σ c) fun v => match u, v with
      | .int _ n, .int _ m =>
          if 0 ≤ n ∧ n = m ∧ n * bytes ≤ appendLimit ∧ n ≤ appendLimit then
            some (.sref (newBlk h none ⟨true, List.replicate n.toNat z⟩).1 0 n.toNat n.toNat, (newBlk h none ⟨true, List.replicate n.toNat z⟩).2)
          else none
      | _, _ => none
  | .sl k x lo hi mx => ob (src σ x) fun v => ob (optInt σ lo) fun l => ob (optInt σ hi) fun u => ob (optInt σ mx) fun m => ret1 h (aSlice k v l u m)
  | .faddr off x => ob (src σ x) fun
      | .ptr id o => some (.ptr id (o + off), h)
      | .eptr cs => some (.eptr (cs.drop off), h)
      | _ => none
  | .field off sz agg x => ob (src σ x) fun
      | .agg cs => ret1 h (shapeOf sz agg ((cs.drop off).take sz))
      | _ => none
  | .iaddr k x i => ob (src σ x) fun v => ob (src σ i) fun
      | .int _ n => ret1 h (aIndexAddr k v n)
      | _ => none
  | .idx k x i => ob (src σ x) fun v => ob (src σ i) fun
      | .int _ n => ret1 h (aIndex k v n)
      | _ => none
  | .extract x i => ob (src σ x) fun
      | .tup vs => ret1 h (vs[i]?)
      | _ => none
  | .len k x => ob (src σ x) fun v => ret1 h (aLen k v)
  | .cap x => ob (src σ x) fun v => ret1 h (aCap v)
  | .minmax mx xs => ob (srcs σ xs) fun l => ret1 h (aMinMax mx l)
  | .append sz bytes s x => ob (src σ s) fun u => ob (src σ x) fun v => ob (aElems v) fun p => aAppend sz bytes h u p.1 p.2
  | .call _ _ => none
  | .pcall _ _ => none
  | .bad => none

/-! #### calls -/
abbrev CallF := FuncId → List AV → AH → Option (AV × AH)

/-- a slice that was made is handed on: from now on nobody writes it -/
def freeze (h : AH) : AV → AV × AH
  | .sref id off len cap =>
    match h.get id with
    | some b => if b.made ∧ off = 0 ∧ len = cap ∧ len = b.cs.length ∧ b.cs.all AV.scalar = true then (.slice false 1 b.cs .full, h.set id none) else (.sref id off len cap, h)
    | none => (.sref id off len cap, h)
  | v => (v, h)

def freezeAll (h : AH) : List AV → List AV × AH
  | [] => ([], h)
  | v :: r => ((freeze h v).1 :: (freezeAll (freeze h v).2 r).1, (freezeAll (freeze h v).2 r).2)

/-- a slice that a call hands back with its spare cells: as one of the caller's own -/
def keepV (nt : Nat) : AV × AH → Option (AV × Nat)
  | (.slice nl sz es rm, h) =>
    if refsAll 0 0 (stripAll es) then
      (match rm with
      | .full => some (.slice nl sz (stripAll es) (.own nt), es.length)
      | .own t => if h.toks[t]? = some es.length then some (.slice nl sz (stripAll es) (.own nt), es.length) else none
      | .unk => none)
    else none
  | _ => none

def aCall (C : Cfg) (call : CallF) (f : FuncId) (args : List AV) (h : AH) : Option (AV × AH) :=
  match C.mode f with
  | .heap => call f args h
  | .pure =>
      if refsAll 0 0 (stripAll (freezeAll h args).1) then
        ob (call f (stripAll (freezeAll h args).1) AH.empty) fun r =>
          if (freeze r.2 r.1).1.strip.refs 0 0 then some ((freeze r.2 r.1).1.strip, (freezeAll h args).2) else none
      else none
  | .keep =>
      if refsAll 0 0 (stripAll (freezeAll h args).1) then
        ob (call f (stripAll (freezeAll h args).1) AH.empty) fun r =>
          ob (keepV (freezeAll h args).2.toks.length r) fun q => some (q.1, ⟨(freezeAll h args).2.blocks, (freezeAll h args).2.toks ++ [q.2]⟩)
      else none

/-- a call that works on values alone, and changes nothing -/
def aCallP (C : Cfg) (call : CallF) (f : FuncId) (args : List AV) (h : AH) : Option (AV × AH) :=
  if C.mode f = .pure ∧ refsAll 0 0 (stripAll args) = true then
    ob (call f (stripAll args) AH.empty) fun r => if (freeze r.2 r.1).1.strip.refs 0 0 then some ((freeze r.2 r.1).1.strip, h) else none
  else none

/-- the function that an operand leads to, with what it bears along -/
def aTarget : AV → List AV → Option (FuncId × List AV)
  | .func (.func f) first captured, args => some (f, first ++ (args ++ captured))
  | _, _ => none

def aOper (C : Cfg) (call : CallF) (σ : Nat → Option AV) (h : AH) (aid : Option Nat) : IOp → Option (AV × AH)
  | .call f args => ob (src σ f) fun v => ob (srcs σ args) fun l => ob (aTarget v l) fun p => aCall C call p.1 p.2 h
  | .pcall f args => ob (src σ f) fun v => ob (srcs σ args) fun l => ob (aTarget v l) fun p => aCallP C call p.1 p.2 h
  | op => aop σ h aid op

/-- is the operation to be done? (none: not known) -/
def aWanted (g : Option (Nat × Bool)) (σ : Nat → Option AV) : Option Bool :=
  match g with
  | none => some true
  | some (d, want) => ob (σ d) fun
      | .bool b => some (b == want)
      | .tup [] => some false
      | _ => none

def aPut (dst : Option Nat) (v : AV) (σ : Nat → Option AV) : Nat → Option AV :=
  match dst with
  | some d => upd d v σ
  | none => σ

def aStep (C : Cfg) (call : CallF) (o : IOper) (aid : Option Nat) (s : St) : Option St :=
  ob (aWanted o.guard s.σ) fun w =>
    if w then ob (aOper C call s.σ s.h aid o.op) fun r => some ⟨aPut o.dst r.1 s.σ, r.2⟩
    else some ⟨aPut o.dst AV.undef s.σ, s.h⟩

def aOps (C : Cfg) (call : CallF) : List IOper → St → Option St
  | [], s => some s
  | o :: r, s => ob (aStep C call o none s) fun s' => aOps C call r s'

/-- the same, each state written down; a block that stands ready is named by its number from 'base' on -/
def aTr (C : Cfg) (call : CallF) (base : Nat) : List (IOper × Option Nat) → St → Option (List St × St)
  | [], s => some ([], s)
  | o :: r, s => ob (aStep C call o.1 (o.2.map (base + ·)) s) fun s' => ob (aTr C call base r s') fun q => some (s :: q.1, q.2)
def pushZ (h : AH) (zs : List (List AV)) : AH := ⟨h.blocks ++ zs.map fun z => some ⟨false, z⟩, h.toks⟩
/-- the block that an operation reads -/
def readId (σ : Nat → Option AV) : IOp → Option Nat
  | .load _ _ a => ob (src σ a) fun | .ptr id _ => some id | _ => none
  | .conv .ofBytes x => ob (src σ x) fun | .sref id _ _ _ => some id | _ => none
  | _ => none
/-- what the first reads is not turned by the second -/
def pairOk (ops : List (IOper × Option Nat)) (tr : List St) (p : Nat × Nat) : Prop :=
  match ops[p.1]?, tr[p.1]?, tr[p.2]?, tr[p.2 + 1]? with
  | some o, some s, some s1, some s2 => match readId s.σ o.1.op with
    | some id => s1.h.get id = s2.h.get id
    | none => True
  | _, _, _, _ => False
def PairsOk (ops : List (IOper × Option Nat)) (tr : List St) : List (Nat × Nat) → Prop
  | [] => True
  | p :: r => pairOk ops tr p ∧ PairsOk ops tr r
noncomputable def checked {α : Type} (p : Prop) (x : Option α) : Option α := @ite _ p (Classical.propDecidable p) x none

def restrict (σ : Nat → Option AV) : List Nat → List (Nat × AV)
  | [] => []
  | k :: r => match σ k with | some v => (k, v) :: restrict σ r | none => restrict σ r

/-- how many blocks are named yet (from 'base' on) -/
def blkRefs (nb nt : Nat) : List (Option Blk) → Bool
  | [] => true
  | none :: r => blkRefs nb nt r
  | some b :: r => refsAll nb nt b.cs && blkRefs nb nt r

def refsS (nb nt : Nat) : List (Nat × AV) → Bool
  | [] => true
  | (_, v) :: r => v.refs nb nt && refsS nb nt r

def popTo (base nt : Nat) (vs : List (Nat × AV)) (bs : List (Option Blk)) : Nat → Nat
  | 0 => 0
  | k + 1 => if decide (base ≤ k) && (refsS k nt vs && blkRefs k nt (bs.take k)) then popTo base nt vs bs k else k + 1

def popH (base : Nat) (vs : List (Nat × AV)) (h : AH) : AH := ⟨h.blocks.take (popTo base h.toks.length vs h.blocks h.blocks.length), h.toks⟩

def settle (base : Nat) (ks : List Nat) (pop : Bool) (s : St) : St :=
  ⟨ofList (restrict s.σ ks), if pop then popH base (restrict s.σ ks) s.h else s.h⟩

inductive AExit where
  | normal | exit (id : Nat) | ret
  deriving DecidableEq, Inhabited

def loopN (step : St → Option (AExit × St)) : Nat → St → Option (AExit × St)
  | 0, _ => none
  | n + 1, s => ob (step s) fun r => match r.1 with
    | .normal => loopN step n r.2
    | e => some (e, r.2)

def andThen (r : AExit × St) (k : St → Option (AExit × St)) : Option (AExit × St) :=
  match r.1 with
  | .normal => k r.2
  | e => some (e, r.2)

def outOf (id : Nat) (r : AExit × St) : AExit × St := (if r.1 = .exit id then .normal else r.1, r.2)

noncomputable def exec (C : Cfg) (call : CallF) (fuel base : Nat) : IC → St → Option (AExit × St)
  | .skip, s => some (.normal, s)
  | .reg ops ks pop, s => ob (aOps C call ops s) fun s' => some (.normal, settle base ks pop s')
  | .regd zs ops pairs ks pop, s => ob (aTr C call s.h.blocks.length ops ⟨s.σ, pushZ s.h zs⟩) fun q => checked (PairsOk ops (q.1 ++ [q.2]) pairs) (some (.normal, settle base ks pop q.2))
  | .seq a b, s => ob (exec C call fuel base a s) fun r => andThen r (exec C call fuel base b)
  | .cond c t e, s => ob (src s.σ c) fun
    | .bool b => if b then exec C call fuel base t s else exec C call fuel base e s
    | _ => none
  | .block id c, s => ob (exec C call fuel base c s) fun r => some (outOf id r)
  | .loop c, s => loopN (exec C call fuel base c) fuel s
  | .scope c, s => exec C call fuel base c s
  | .exit id, s => some (.exit id, s)
  | .ret, s => some (.ret, s)

def resultOf (s : St) : Nat ⊕ (Nat × Nat × Bool) → Option AV
  | .inl t => s.σ t
  | .inr (a, sz, agg) => ob (s.σ a) fun v => match v with | .ptr id off => aLoad sz agg s.h (.ptr id off) | _ => none
def resultsL (s : St) : List (Nat ⊕ (Nat × Nat × Bool)) → Option (List AV)
  | [] => some []
  | r :: l => ob (resultOf s r) fun v => ob (resultsL s l) fun vs => some (v :: vs)
def tupOf : List AV → AV
  | [v] => v
  | l => .tup l

def argList : List AV → Nat → List (Nat × AV)
  | [], _ => []
  | v :: r, k => (k, v) :: argList r (k + 1)

def leave (rs : List (Nat ⊕ (Nat × Nat × Bool))) (r : AExit × St) : Option (AV × AH) :=
  match r.1 with
  | .exit _ => none
  | _ => ob (resultsL r.2 rs) fun vs => some (tupOf vs, r.2.h)

noncomputable def callB (C : Cfg) (call : CallF) (fuel : Nat) (f : FuncId) (args : List AV) (h : AH) : Option (AV × AH) :=
  match C.prim f with
  | some p => p args h
  | none => ob (C.fn f) fun fn =>
    if args.length ≤ fn.nt then
      ob (exec C call fuel h.blocks.length fn.body ⟨ofList (argList args 0), h⟩) (leave fn.results)
    else none

noncomputable def callN (C : Cfg) : Nat → CallF
  | 0 => fun _ _ _ => none
  | n + 1 => callB C (callN C n) n

end Go.Abs
/- The evaluator without a number of rounds: what it answers with enough of them. -/
namespace Go.Abs
variable {C : Cfg}

/-- the second answers all that the first does -/
def LeF (f g : CallF) : Prop := ∀ a b c r, f a b c = some r → g a b c = some r
theorem LeF.refl (f : CallF) : LeF f f := fun _ _ _ _ h => h
theorem LeF.trans {f g k : CallF} (h : LeF f g) (h' : LeF g k) : LeF f k := fun a b c r e => h' a b c r (h a b c r e)

theorem ob_eq_some {α β : Type} {x : Option α} {f : α → Option β} {r : β} : ob x f = some r ↔ ∃ a, x = some a ∧ f a = some r := by
  cases x <;> simp [ob]
theorem ob_some {α β : Type} (a : α) (f : α → Option β) : ob (some a) f = f a := rfl
theorem ob_none {α β : Type} (f : α → Option β) : ob none f = none := rfl

theorem aCall_mono {f g : CallF} (h : LeF f g) {fn : FuncId} {args : List AV} {hp : AH} {r : AV × AH} (e : aCall C f fn args hp = some r) : aCall C g fn args hp = some r := by
  unfold aCall at e ⊢
  cases hm : C.mode fn with
  | heap => rw [hm] at e; exact h _ _ _ _ e
  | pure =>
    rw [hm] at e
    dsimp only at e ⊢
    split at e
    · rename_i hc; rw [if_pos hc]
      obtain ⟨a, ha, hb⟩ := ob_eq_some.1 e
      exact ob_eq_some.2 ⟨a, h _ _ _ _ ha, hb⟩
    · cases e
  | keep =>
    rw [hm] at e
    dsimp only at e ⊢
    split at e
    · rename_i hc; rw [if_pos hc]
      obtain ⟨a, ha, hb⟩ := ob_eq_some.1 e
      exact ob_eq_some.2 ⟨a, h _ _ _ _ ha, hb⟩
    · cases e

theorem aCallP_mono {f g : CallF} (h : LeF f g) {fn : FuncId} {args : List AV} {hp : AH} {r : AV × AH} (e : aCallP C f fn args hp = some r) : aCallP C g fn args hp = some r := by
  unfold aCallP at e ⊢
  split at e
  · rename_i hc; rw [if_pos hc]
    obtain ⟨a, ha, hb⟩ := ob_eq_some.1 e
    exact ob_eq_some.2 ⟨a, h _ _ _ _ ha, hb⟩
  · cases e

theorem aOper_mono {f g : CallF} (h : LeF f g) {σ : Nat → Option AV} {hp : AH} {aid : Option Nat} {o : IOp} {r : AV × AH} (e : aOper C f σ hp aid o = some r) :
    aOper C g σ hp aid o = some r := by
  cases o with
  | call x args =>
    simp only [aOper] at e ⊢
    obtain ⟨v, hv, e⟩ := ob_eq_some.1 e
    obtain ⟨l, hl, e⟩ := ob_eq_some.1 e
    obtain ⟨p, hp, e⟩ := ob_eq_some.1 e
    exact ob_eq_some.2 ⟨v, hv, ob_eq_some.2 ⟨l, hl, ob_eq_some.2 ⟨p, hp, aCall_mono h e⟩⟩⟩
  | pcall x args =>
    simp only [aOper] at e ⊢
    obtain ⟨v, hv, e⟩ := ob_eq_some.1 e
    obtain ⟨l, hl, e⟩ := ob_eq_some.1 e
    obtain ⟨p, hp, e⟩ := ob_eq_some.1 e
    exact ob_eq_some.2 ⟨v, hv, ob_eq_some.2 ⟨l, hl, ob_eq_some.2 ⟨p, hp, aCallP_mono h e⟩⟩⟩
  | _ => exact e

theorem aStep_mono {f g : CallF} (h : LeF f g) {o : IOper} {aid : Option Nat} {s s' : St} (e : aStep C f o aid s = some s') : aStep C g o aid s = some s' := by
  unfold aStep at e ⊢
  obtain ⟨w, hw, e⟩ := ob_eq_some.1 e
  refine ob_eq_some.2 ⟨w, hw, ?_⟩
  cases w with
  | false => exact e
  | true =>
    obtain ⟨r, hr, e⟩ := ob_eq_some.1 e
    exact ob_eq_some.2 ⟨r, aOper_mono h hr, e⟩

theorem aOps_mono {f g : CallF} (h : LeF f g) {ops : List IOper} : ∀ {s s' : St}, aOps C f ops s = some s' → aOps C g ops s = some s' := by
  induction ops with
  | nil => intro s s' e; exact e
  | cons o r ih =>
    intro s s' e
    obtain ⟨s1, h1, e⟩ := ob_eq_some.1 e
    exact ob_eq_some.2 ⟨s1, aStep_mono h h1, ih e⟩

theorem aTr_mono {f g : CallF} (h : LeF f g) {base : Nat} {ops : List (IOper × Option Nat)} : ∀ {s : St} {q : List St × St}, aTr C f base ops s = some q → aTr C g base ops s = some q := by
  induction ops with
  | nil => intro s q e; exact e
  | cons o r ih =>
    intro s q e
    obtain ⟨s1, h1, e⟩ := ob_eq_some.1 e
    obtain ⟨q1, h2, e⟩ := ob_eq_some.1 e
    exact ob_eq_some.2 ⟨s1, aStep_mono h h1, ob_eq_some.2 ⟨q1, ih h2, e⟩⟩

theorem loopN_mono {p q : St → Option (AExit × St)} (h : ∀ s r, p s = some r → q s = some r) : ∀ (n m : Nat), n ≤ m → ∀ {s r}, loopN p n s = some r → loopN q m s = some r := by
  intro n
  induction n with
  | zero => intro m _ s r e; cases e
  | succ n ih =>
    intro m hm s r e
    obtain ⟨m, rfl⟩ : ∃ k, m = k + 1 := ⟨m - 1, by omega⟩
    obtain ⟨x, hx, e⟩ := ob_eq_some.1 e
    refine ob_eq_some.2 ⟨x, h _ _ hx, ?_⟩
    cases hx1 : x.1 with
    | normal => simp only [hx1] at e ⊢; exact ih m (by omega) e
    | exit id => simp only [hx1] at e ⊢; exact e
    | ret => simp only [hx1] at e ⊢; exact e

theorem exec_mono {f g : CallF} (h : LeF f g) {n m base : Nat} (hn : n ≤ m) {c : IC} : ∀ {s r}, exec C f n base c s = some r → exec C g m base c s = some r := by
  induction c with
  | skip => intro s r e; exact e
  | reg ops ks pop =>
    intro s r e
    obtain ⟨s1, h1, e⟩ := ob_eq_some.1 e
    exact ob_eq_some.2 ⟨s1, aOps_mono h h1, e⟩
  | regd zs ops pairs ks pop =>
    intro s r e
    obtain ⟨s1, h1, e⟩ := ob_eq_some.1 e
    exact ob_eq_some.2 ⟨s1, aTr_mono h h1, e⟩
  | seq a b iha ihb =>
    intro s r e
    obtain ⟨x, hx, e⟩ := ob_eq_some.1 e
    refine ob_eq_some.2 ⟨x, iha hx, ?_⟩
    unfold andThen at e ⊢
    cases hx1 : x.1 with
    | normal => simp only [hx1] at e ⊢; exact ihb e
    | exit id => simp only [hx1] at e ⊢; exact e
    | ret => simp only [hx1] at e ⊢; exact e
  | cond c t e iht ihe =>
    intro s r e
    obtain ⟨x, hx, e⟩ := ob_eq_some.1 e
    refine ob_eq_some.2 ⟨x, hx, ?_⟩
    cases x with
    | bool b => cases b <;> simp only [if_true, if_false, Bool.false_eq_true] at e ⊢ <;> first | exact iht e | exact ihe e
    | _ => cases e
  | block id c ih =>
    intro s r e
    obtain ⟨x, hx, e⟩ := ob_eq_some.1 e
    exact ob_eq_some.2 ⟨x, ih hx, e⟩
  | loop c ih => intro s r e; exact loopN_mono (fun _ _ => ih) n m hn e
  | scope c ih => intro s r e; exact ih e
  | exit id => intro s r e; exact e
  | ret => intro s r e; exact e

theorem callB_mono {f g : CallF} (h : LeF f g) {n m : Nat} (hn : n ≤ m) : LeF (callB C f n) (callB C g m) := by
  intro a b c r e
  unfold callB at e ⊢
  cases hp : C.prim a with
  | some p => rw [hp] at e; exact e
  | none =>
  rw [hp] at e
  dsimp only at e ⊢
  obtain ⟨fn, hf, e⟩ := ob_eq_some.1 e
  refine ob_eq_some.2 ⟨fn, hf, ?_⟩
  split at e
  · rename_i hc; rw [if_pos hc]
    obtain ⟨x, hx, e⟩ := ob_eq_some.1 e
    exact ob_eq_some.2 ⟨x, exec_mono h hn hx, e⟩
  · cases e

theorem callN_succ : ∀ n, LeF (callN C n) (callN C (n + 1))
  | 0 => fun _ _ _ _ e => by cases e
  | n + 1 => callB_mono (callN_succ n) (by omega)

theorem callN_le {n m : Nat} (h : n ≤ m) : LeF (callN C n) (callN C m) := by
  induction m with
  | zero => obtain rfl : n = 0 := by omega
            exact LeF.refl _
  | succ m ih =>
    by_cases e : n = m + 1
    · subst e; exact LeF.refl _
    · exact (ih (by omega)).trans (callN_succ m)

/-- what a family of answers comes to -/
noncomputable def lim {α : Type} (p : Nat → Option α) : Option α :=
  open Classical in if h : ∃ r, ∃ n, p n = some r then some (Classical.choose h) else none

def Mono {α : Type} (p : Nat → Option α) : Prop := ∀ n m, n ≤ m → ∀ r, p n = some r → p m = some r

theorem lim_iff {α : Type} {p : Nat → Option α} (hm : Mono p) {r : α} : lim p = some r ↔ ∃ n, p n = some r := by
  unfold lim
  constructor
  · intro h
    split at h
    · rename_i hx
      have := Classical.choose_spec hx
      simp only [Option.some.injEq] at h
      rw [h] at this
      exact this
    · cases h
  · rintro ⟨n, hn⟩
    have hx : ∃ r, ∃ n, p n = some r := ⟨r, n, hn⟩
    rw [dif_pos hx]
    obtain ⟨m, hm'⟩ := Classical.choose_spec hx
    have h1 := hm n (max n m) (by omega) _ hn
    have h2 := hm m (max n m) (by omega) _ hm'
    rw [h2] at h1
    exact h1

theorem lim_ext {α : Type} {p : Nat → Option α} (hm : Mono p) {x : Option α} (h : ∀ r, x = some r ↔ ∃ n, p n = some r) : lim p = x := by
  cases hx : x with
  | some r => exact (lim_iff hm).2 ((h r).1 hx)
  | none =>
    cases hl : lim p with
    | none => rfl
    | some r => have := (h r).2 ((lim_iff hm).1 hl); rw [hx] at this; cases this

/-- the call of a function -/
noncomputable def call (C : Cfg) : CallF := fun f args h => lim fun n => callN C n f args h
/-- the run of a text -/
noncomputable def run (C : Cfg) (base : Nat) (c : IC) (s : St) : Option (AExit × St) := lim fun n => exec C (callN C n) n base c s
/-- a list of operations, each state written down -/
noncomputable def opsT (C : Cfg) (base : Nat) (l : List (IOper × Option Nat)) (s : St) : Option (List St × St) := lim fun n => aTr C (callN C n) base l s
/-- a list of operations -/
noncomputable def ops (C : Cfg) (l : List IOper) (s : St) : Option St := lim fun n => aOps C (callN C n) l s

theorem callN_mono (f : FuncId) (args : List AV) (h : AH) : Mono fun n => callN C n f args h := fun _ _ hnm _ e => callN_le hnm _ _ _ _ e
theorem exec_Mono (base : Nat) (c : IC) (s : St) : Mono fun n => exec C (callN C n) n base c s := fun _ _ hnm _ e => exec_mono (callN_le hnm) hnm e
theorem aOps_Mono (l : List IOper) (s : St) : Mono fun n => aOps C (callN C n) l s := fun _ _ hnm _ e => aOps_mono (callN_le hnm) e

theorem aTr_Mono (base : Nat) (l : List (IOper × Option Nat)) (s : St) : Mono fun n => aTr C (callN C n) base l s := fun _ _ hnm _ e => aTr_mono (callN_le hnm) e
theorem opsT_iff {base : Nat} {l : List (IOper × Option Nat)} {s : St} {q : List St × St} : opsT C base l s = some q ↔ ∃ n, aTr C (callN C n) base l s = some q := lim_iff (aTr_Mono base l s)
theorem call_iff {f : FuncId} {args : List AV} {h : AH} {r : AV × AH} : call C f args h = some r ↔ ∃ n, callN C n f args h = some r := lim_iff (callN_mono f args h)
theorem run_iff {base : Nat} {c : IC} {s : St} {r : AExit × St} : run C base c s = some r ↔ ∃ n, exec C (callN C n) n base c s = some r := lim_iff (exec_Mono base c s)
theorem ops_iff {l : List IOper} {s s' : St} : ops C l s = some s' ↔ ∃ n, aOps C (callN C n) l s = some s' := lim_iff (aOps_Mono l s)

theorem call_ge (n : Nat) : LeF (callN C n) (call C) := fun _ _ _ _ e => call_iff.2 ⟨n, e⟩

theorem ob_lim {α β : Type} {p : Nat → Option α} {q : Nat → α → Option β} {x : Option α} {y : α → Option β} (hp : Mono p) (hq : ∀ a, Mono fun n => q n a)
    (hx : ∀ a, x = some a ↔ ∃ n, p n = some a) (hy : ∀ a b, y a = some b ↔ ∃ n, q n a = some b) {b : β} : (∃ n, ob (p n) (q n) = some b) ↔ ob x y = some b := by
  constructor
  · rintro ⟨n, h⟩
    obtain ⟨a, ha, hb⟩ := ob_eq_some.1 h
    exact ob_eq_some.2 ⟨a, (hx a).2 ⟨n, ha⟩, (hy a b).2 ⟨n, hb⟩⟩
  · intro h
    obtain ⟨a, ha, hb⟩ := ob_eq_some.1 h
    obtain ⟨n, hn⟩ := (hx a).1 ha
    obtain ⟨m, hm⟩ := (hy a b).1 hb
    exact ⟨max n m, ob_eq_some.2 ⟨a, hp n _ (by omega) _ hn, hq a m _ (by omega) _ hm⟩⟩

/-! #### the equations -/
theorem run_skip (base : Nat) (s : St) : run C base .skip s = some (.normal, s) := run_iff.2 ⟨0, rfl⟩
theorem run_exit (base id : Nat) (s : St) : run C base (.exit id) s = some (.exit id, s) := run_iff.2 ⟨0, rfl⟩
theorem run_ret (base : Nat) (s : St) : run C base .ret s = some (.ret, s) := run_iff.2 ⟨0, rfl⟩
theorem run_reg (base : Nat) (l : List IOper) (ks : List Nat) (pop : Bool) (s : St) : run C base (.reg l ks pop) s = ob (ops C l s) fun s' => some (.normal, settle base ks pop s') :=
  lim_ext (exec_Mono _ _ _) fun _ => (ob_lim (q := fun _ s' => some (AExit.normal, settle base ks pop s')) (aOps_Mono l s) (fun _ _ _ _ _ e => e) (fun _ => ops_iff) (fun _ _ => ⟨fun h => ⟨0, h⟩, fun ⟨_, h⟩ => h⟩)).symm
theorem run_regd (base : Nat) (zs : List (List AV)) (l : List (IOper × Option Nat)) (ps : List (Nat × Nat)) (ks : List Nat) (pop : Bool) (s : St) :
    run C base (.regd zs l ps ks pop) s = ob (opsT C s.h.blocks.length l ⟨s.σ, pushZ s.h zs⟩) fun q => checked (PairsOk l (q.1 ++ [q.2]) ps) (some (.normal, settle base ks pop q.2)) :=
  lim_ext (exec_Mono _ _ _) fun _ => (ob_lim (q := fun _ (q : List St × St) => checked (PairsOk l (q.1 ++ [q.2]) ps) (some (AExit.normal, settle base ks pop q.2))) (aTr_Mono s.h.blocks.length l ⟨s.σ, pushZ s.h zs⟩) (fun _ _ _ _ _ e => e) (fun _ => opsT_iff)
    (fun _ _ => ⟨fun h => ⟨0, h⟩, fun ⟨_, h⟩ => h⟩)).symm
theorem run_seq (base : Nat) (a b : IC) (s : St) : run C base (.seq a b) s = ob (run C base a s) fun r => andThen r (run C base b) := by
  refine lim_ext (exec_Mono _ _ _) fun _ => (ob_lim (q := fun n r => andThen r (exec C (callN C n) n base b)) (exec_Mono base a s) ?_ (fun _ => run_iff) ?_).symm
  · intro r n m h x e
    unfold andThen at e ⊢
    cases hr : r.1 <;> simp only [hr] at e ⊢ <;> first | exact exec_Mono base b _ n m h _ e | exact e
  · intro r x
    unfold andThen
    cases hr : r.1 <;> simp only
    · exact run_iff
    · exact ⟨fun h => ⟨0, h⟩, fun ⟨_, h⟩ => h⟩
    · exact ⟨fun h => ⟨0, h⟩, fun ⟨_, h⟩ => h⟩
theorem run_cond (base : Nat) (c : Src) (t e : IC) (s : St) : run C base (.cond c t e) s = ob (src s.σ c) fun
    | .bool b => if b then run C base t s else run C base e s
    | _ => none := by
  refine lim_ext (exec_Mono _ _ _) fun x => ?_
  show _ ↔ ∃ n, ob (src s.σ c) _ = some x
  cases src s.σ c with
  | none => simp [ob]
  | some v =>
    simp only [ob_some]
    cases v with
    | bool b => cases b <;> simp only [if_true, if_false, Bool.false_eq_true] <;> exact run_iff
    | _ => simp
theorem run_block (base id : Nat) (c : IC) (s : St) : run C base (.block id c) s = ob (run C base c s) fun r => some (outOf id r) :=
  lim_ext (exec_Mono _ _ _) fun _ => (ob_lim (q := fun _ r => some (outOf id r)) (exec_Mono base c s) (fun _ _ _ _ _ e => e) (fun _ => run_iff) (fun _ _ => ⟨fun h => ⟨0, h⟩, fun ⟨_, h⟩ => h⟩)).symm
theorem run_scope (base : Nat) (c : IC) (s : St) : run C base (.scope c) s = run C base c s :=
  lim_ext (exec_Mono _ _ _) fun _ => run_iff
/-- a loop, one round unrolled -/
theorem run_loop (base : Nat) (c : IC) (s : St) : run C base (.loop c) s = ob (run C base c s) fun r => andThen r (run C base (.loop c)) := by
  refine lim_ext (exec_Mono _ _ _) fun x => ?_
  constructor
  · intro h
    obtain ⟨r, hr, hx⟩ := ob_eq_some.1 h
    obtain ⟨n, hn⟩ := run_iff.1 hr
    unfold andThen at hx
    cases hr1 : r.1 with
    | normal =>
      simp only [hr1] at hx
      obtain ⟨m, hm⟩ := run_iff.1 hx
      refine ⟨max n m + 1, ?_⟩
      show loopN _ (max n m + 1) s = some x
      refine ob_eq_some.2 ⟨r, exec_Mono base c s n _ (by omega) _ hn, ?_⟩
      simp only [hr1]
      exact loopN_mono (fun s r e => exec_Mono base c s m _ (by omega) _ e) m _ (by omega) hm
    | exit id =>
      simp only [hr1] at hx
      refine ⟨n + 1, ob_eq_some.2 ⟨r, exec_Mono base c s n _ (by omega) _ hn, ?_⟩⟩
      simp only [hr1]; exact hx
    | ret =>
      simp only [hr1] at hx
      refine ⟨n + 1, ob_eq_some.2 ⟨r, exec_Mono base c s n _ (by omega) _ hn, ?_⟩⟩
      simp only [hr1]; exact hx
  · rintro ⟨n, hn⟩
    cases n with
    | zero => cases hn
    | succ n =>
      obtain ⟨r, hr, hx⟩ := ob_eq_some.1 (show ob _ _ = some x from hn)
      refine ob_eq_some.2 ⟨r, run_iff.2 ⟨n + 1, hr⟩, ?_⟩
      unfold andThen
      cases hr1 : r.1 with
      | normal =>
        simp only [hr1] at hx ⊢
        exact run_iff.2 ⟨n + 1, loopN_mono (fun _ _ e => e) n _ (by omega) hx⟩
      | exit id => simp only [hr1] at hx ⊢; exact hx
      | ret => simp only [hr1] at hx ⊢; exact hx

theorem ops_nil (s : St) : ops C [] s = some s := ops_iff.2 ⟨0, rfl⟩

theorem aCall_lim {f : FuncId} {args : List AV} {h : AH} {r : AV × AH} : aCall C (call C) f args h = some r ↔ ∃ n, aCall C (callN C n) f args h = some r := by
  constructor
  · intro e
    unfold aCall at e
    cases hm : C.mode f with
    | heap =>
      rw [hm] at e
      obtain ⟨n, hn⟩ := call_iff.1 e
      exact ⟨n, by unfold aCall; rw [hm]; exact hn⟩
    | pure =>
      rw [hm] at e
      dsimp only at e
      split at e
      · rename_i hc
        obtain ⟨a, ha, hb⟩ := ob_eq_some.1 e
        obtain ⟨n, hn⟩ := call_iff.1 ha
        exact ⟨n, by unfold aCall; rw [hm]; dsimp only; rw [if_pos hc]; exact ob_eq_some.2 ⟨a, hn, hb⟩⟩
      · cases e
    | keep =>
      rw [hm] at e
      dsimp only at e
      split at e
      · rename_i hc
        obtain ⟨a, ha, hb⟩ := ob_eq_some.1 e
        obtain ⟨n, hn⟩ := call_iff.1 ha
        exact ⟨n, by unfold aCall; rw [hm]; dsimp only; rw [if_pos hc]; exact ob_eq_some.2 ⟨a, hn, hb⟩⟩
      · cases e
  · rintro ⟨n, e⟩
    exact aCall_mono (call_ge n) e

theorem aCallP_lim {f : FuncId} {args : List AV} {h : AH} {r : AV × AH} : aCallP C (call C) f args h = some r ↔ ∃ n, aCallP C (callN C n) f args h = some r := by
  constructor
  · intro e
    unfold aCallP at e
    split at e
    · rename_i hc
      obtain ⟨a, ha, hb⟩ := ob_eq_some.1 e
      obtain ⟨n, hn⟩ := call_iff.1 ha
      exact ⟨n, by unfold aCallP; rw [if_pos hc]; exact ob_eq_some.2 ⟨a, hn, hb⟩⟩
    · cases e
  · rintro ⟨n, e⟩
    exact aCallP_mono (call_ge n) e

theorem aOper_lim {σ : Nat → Option AV} {h : AH} {aid : Option Nat} {o : IOp} {r : AV × AH} : aOper C (call C) σ h aid o = some r ↔ ∃ n, aOper C (callN C n) σ h aid o = some r := by
  constructor
  · intro e
    cases o with
    | call x args =>
      simp only [aOper] at e
      obtain ⟨v, hv, e⟩ := ob_eq_some.1 e
      obtain ⟨l, hl, e⟩ := ob_eq_some.1 e
      obtain ⟨p, hp, e⟩ := ob_eq_some.1 e
      obtain ⟨n, hn⟩ := aCall_lim.1 e
      exact ⟨n, ob_eq_some.2 ⟨v, hv, ob_eq_some.2 ⟨l, hl, ob_eq_some.2 ⟨p, hp, hn⟩⟩⟩⟩
    | pcall x args =>
      simp only [aOper] at e
      obtain ⟨v, hv, e⟩ := ob_eq_some.1 e
      obtain ⟨l, hl, e⟩ := ob_eq_some.1 e
      obtain ⟨p, hp, e⟩ := ob_eq_some.1 e
      obtain ⟨n, hn⟩ := aCallP_lim.1 e
      exact ⟨n, ob_eq_some.2 ⟨v, hv, ob_eq_some.2 ⟨l, hl, ob_eq_some.2 ⟨p, hp, hn⟩⟩⟩⟩
    | _ => exact ⟨0, e⟩
  · rintro ⟨n, e⟩; exact aOper_mono (call_ge n) e

theorem aStep_lim {o : IOper} {aid : Option Nat} {s s' : St} : aStep C (call C) o aid s = some s' ↔ ∃ n, aStep C (callN C n) o aid s = some s' := by
  constructor
  · intro e
    unfold aStep at e
    obtain ⟨w, hw, e⟩ := ob_eq_some.1 e
    cases w with
    | false => exact ⟨0, ob_eq_some.2 ⟨_, hw, e⟩⟩
    | true =>
      obtain ⟨r, hr, e⟩ := ob_eq_some.1 e
      obtain ⟨n, hn⟩ := aOper_lim.1 hr
      exact ⟨n, ob_eq_some.2 ⟨_, hw, ob_eq_some.2 ⟨r, hn, e⟩⟩⟩
  · rintro ⟨n, e⟩; exact aStep_mono (call_ge n) e

theorem ops_cons (o : IOper) (r : List IOper) (s : St) : ops C (o :: r) s = ob (aStep C (call C) o none s) fun s' => ops C r s' :=
  lim_ext (aOps_Mono _ _) fun _ => (ob_lim (p := fun n => aStep C (callN C n) o none s) (fun _ _ h _ e => aStep_mono (callN_le h) e) (fun s' => aOps_Mono r s') (fun _ => aStep_lim) (fun _ _ => ops_iff)).symm

theorem opsT_nil (base : Nat) (s : St) : opsT C base [] s = some ([], s) := opsT_iff.2 ⟨0, rfl⟩
theorem opsT_cons (base : Nat) (o : IOper × Option Nat) (r : List (IOper × Option Nat)) (s : St) :
    opsT C base (o :: r) s = ob (aStep C (call C) o.1 (o.2.map (base + ·)) s) fun s' => ob (opsT C base r s') fun q => some (s :: q.1, q.2) := by
  refine lim_ext (aTr_Mono _ _ _) fun x => ?_
  rw [← ob_lim (p := fun n => aStep C (callN C n) o.1 (o.2.map (base + ·)) s) (q := fun n s' => ob (aTr C (callN C n) base r s') fun q => some (s :: q.1, q.2)) (fun _ _ h _ e => aStep_mono (callN_le h) e) ?_ (fun _ => aStep_lim) ?_]
  · exact Iff.rfl
  · intro s' n m h y e
    obtain ⟨q, hq, e⟩ := ob_eq_some.1 e
    exact ob_eq_some.2 ⟨q, aTr_mono (callN_le h) hq, e⟩
  · intro s' y
    exact (ob_lim (q := fun _ (q : List St × St) => some (s :: q.1, q.2)) (aTr_Mono base r s') (fun _ _ _ _ _ e => e) (fun _ => opsT_iff) (fun _ _ => ⟨fun h => ⟨0, h⟩, fun ⟨_, h⟩ => h⟩)).symm

/-- a call, by its text -/
theorem call_prim {f : FuncId} {p : List AV → AH → Option (AV × AH)} (hp : C.prim f = some p) (args : List AV) (h : AH) : call C f args h = p args h := by
  refine lim_ext (callN_mono f args h) fun x => ?_
  have h0 : ∀ n, callN C (n + 1) f args h = p args h := by
    intro n
    rw [show callN C (n + 1) f args h = callB C (callN C n) n f args h from rfl, callB, hp]
  constructor
  · intro e; exact ⟨1, by rw [h0]; exact e⟩
  · rintro ⟨n, hn⟩
    cases n with
    | zero => cases hn
    | succ n => rw [h0] at hn; exact hn
theorem call_eq (f : FuncId) (hp : C.prim f = none) (args : List AV) (h : AH) : call C f args h = ob (C.fn f) fun fn =>
    if args.length ≤ fn.nt then ob (run C h.blocks.length fn.body ⟨ofList (argList args 0), h⟩) (leave fn.results) else none := by
  refine lim_ext (callN_mono f args h) fun x => ?_
  cases hf : C.fn f with
  | none =>
    constructor
    · intro e; cases e
    · rintro ⟨n, hn⟩
      cases n with
      | zero => cases hn
      | succ n => rw [show callN C (n + 1) f args h = callB C (callN C n) n f args h from rfl, callB, hp, hf] at hn; cases hn
  | some fn =>
    by_cases hc : args.length ≤ fn.nt
    · rw [ob_some, if_pos hc]
      have h0 : ∀ n, callN C (n + 1) f args h = ob (exec C (callN C n) n h.blocks.length fn.body ⟨ofList (argList args 0), h⟩) (leave fn.results) := by
        intro n
        rw [show callN C (n + 1) f args h = callB C (callN C n) n f args h from rfl, callB, hp, hf, ob_some, if_pos hc]
      rw [← ob_lim (q := fun _ r => leave fn.results r) (exec_Mono h.blocks.length fn.body ⟨ofList (argList args 0), h⟩) (fun _ _ _ _ _ e => e) (fun _ => run_iff) (fun _ _ => ⟨fun h => ⟨0, h⟩, fun ⟨_, h⟩ => h⟩)]
      constructor
      · rintro ⟨n, hn⟩; exact ⟨n + 1, by rw [h0]; exact hn⟩
      · rintro ⟨n, hn⟩
        cases n with
        | zero => cases hn
        | succ n => exact ⟨n, by rw [← h0]; exact hn⟩
    · rw [ob_some, if_neg hc]
      constructor
      · intro e; cases e
      · rintro ⟨n, hn⟩
        cases n with
        | zero => cases hn
        | succ n => rw [show callN C (n + 1) f args h = callB C (callN C n) n f args h from rfl, callB, hp, hf, ob_some, if_neg hc] at hn; cases hn

end Go.Abs
/- A function's text in the model, and the text that is evaluated: the second is reckoned out of the first. -/
namespace Go.Abs

def ofConst0 : Value → Option AV
  | .bool b => some (.bool b)
  | .int k n => some (.int k n)
  | .string s => some (.str s)
  | .pointer none => some .nilp
  | .slice none 0 0 => some (.slice true 0 [] .full)
  | .nilFunc => some .nilf
  | .nilIface => some .nili
  | _ => none
def ofConsts : List Value → Option (List AV)
  | [] => some []
  | v :: r => ob (ofConst0 v) fun a => ob (ofConsts r) fun l => some (a :: l)
def ofConst : Value → Option AV
  | .agg cs => ob (ofConsts cs.toList) fun l => some (.agg l)
  | v => ofConst0 v

/-- the shape of a type -/
inductive TD where
  | bool | int (k : IntKind) | string | uptr
  | pointer (e : TypeId) | slice (e : TypeId) | array (n : Nat) (e : TypeId)
  | struct (fs : List (TypeId × Nat × Bool))
  | func | iface | other
  deriving Inhabited

structure TI where
  d : TD
  size : Nat
  bytes : Nat
  zero : List AV
  eq : Bool           -- a struct that may be compared field by field
  deriving Inhabited

abbrev Tys := TypeId → Option TI

def TI.agg (t : TI) : Bool := match t.d with | .struct _ | .array _ _ => true | _ => false

def srcOf : Operand → Option Src
  | .tmp t => some (.slot t)
  | .const v => ob (ofConst v) fun a => some (.lit a)
  | .func f => some (.lit (.func (.func f) [] []))
  | .global _ => none
def srcsOf : List Operand → Option (List Src)
  | [] => some []
  | x :: r => ob (srcOf x) fun a => ob (srcsOf r) fun l => some (a :: l)
def osrcOf : Option Operand → Option (Option Src)
  | none => some none
  | some x => ob (srcOf x) fun a => some (some a)

def zeroOf (ti : TI) : Option AV := shapeOf ti.size ti.agg ti.zero

def fldOf (fs : List (TypeId × Nat × Bool)) (i : Nat) : Option (TypeId × Nat) := ob (fs[i]?) fun f => some (f.1, f.2.1)

def partsOfS (T : Tys) (fs : List (TypeId × Nat × Bool)) : List (Nat × Operand) → Option (List (Nat × Nat × Src))
  | [] => some []
  | (i, x) :: r => ob (fldOf fs i) fun f => ob (T f.1) fun fi => ob (srcOf x) fun a => ob (partsOfS T fs r) fun l => some ((f.2, fi.size, a) :: l)
def partsOfA (sz : Nat) : List (Nat × Operand) → Option (List (Nat × Nat × Src))
  | [] => some []
  | (i, x) :: r => ob (srcOf x) fun a => ob (partsOfA sz r) fun l => some ((i * sz, sz, a) :: l)
def partsOfL : List (Nat × Operand) → Option (List (Nat × Src))
  | [] => some []
  | (i, x) :: r => ob (srcOf x) fun a => ob (partsOfL r) fun l => some ((i, a) :: l)

def seqOf (T : Tys) (t : TypeId) : Option SeqK :=
  ob (T t) fun ti => match ti.d with
    | .string => some .str
    | .slice e => ob (T e) fun ei => some (.slice ei.size)
    | .array n e => ob (T e) fun ei => some (.arr n ei.size ei.agg)
    | _ => none

def eqFs (T : Tys) (rec : TypeId → Option EqD) : List (TypeId × Nat × Bool) → Option (List (Nat × Nat × Bool × EqD))
  | [] => some []
  | (ft, off, blank) :: r => if blank then eqFs T rec r else
    ob (T ft) fun fi => ob (rec ft) fun e => ob (eqFs T rec r) fun l => some ((off, fi.size, fi.agg, e) :: l)
def eqOf (T : Tys) : Nat → TypeId → Option EqD
  | 0, _ => none
  | d + 1, t => ob (T t) fun ti => match ti.d with
    | .bool => some .bool
    | .int _ => some .int
    | .string => some .str
    | .pointer _ => some .ptr
    | .slice _ => some .slice
    | .func => some .func
    | .struct fs => if ti.eq then ob (eqFs T (eqOf T d) fs) fun l => some (.struct l) else none
    | _ => none

def convOf (T : Tys) (s d : TypeId) : Option ConvK :=
  ob (T s) fun si => ob (T d) fun di => match si.d, di.d with
    | .int _, .int k => some (.int k)
    | .string, .string => some .str
    | .string, .slice e => ob (T e) fun ei => match ei.d with | .int .u8 => some .toBytes | _ => none
    | .slice e, .string => ob (T e) fun ei => match ei.d with | .int .u8 => some .ofBytes | _ => none
    | _, _ => none

def opOf (T : Tys) : Op → Option IOp
  | .move x | .assign x => ob (srcOf x) fun a => some (.mov a)
  | .pick c x y => ob (srcOf c) fun c => ob (srcOf x) fun x => ob (srcOf y) fun y => some (.pick c x y)
  | .alloc e => ob (T e) fun ti => some (.alloc ti.zero)
  | .box _ x => ob (srcOf x) fun a => some (.box a)
  | .build t ps => ob (T t) fun ti => match ti.d with
      | .struct fs => ob (partsOfS T fs ps.toList) fun l => some (.build ti.zero l)
      | .array _ e => ob (T e) fun ei => ob (partsOfA ei.size ps.toList) fun l => some (.build ti.zero l)
      | _ => none
  | .buildSlice t n ps => ob (T t) fun ti => match ti.d with
      | .slice e => ob (T e) fun ei => ob (zeroOf ei) fun z => ob (partsOfL ps.toList) fun l =>
          if ei.size = 0 ∨ 16777216 < n * ei.size then none else some (.bslice ei.size z n l)
      | _ => none
  | .load t a => ob (T t) fun ti => ob (srcOf a) fun a => some (.load ti.size ti.agg a)
  | .store t a x => ob (T t) fun ti => ob (srcOf a) fun a => ob (srcOf x) fun x => some (.store ti.size a x)
  | .nilCheck x => ob (srcOf x) fun a => some (.nilck a)
  | .binOp op t x y _ => ob (srcOf x) fun a => ob (srcOf y) fun b => match op with
      | .eql | .neq => some (.bin op (eqOf T 20 t) a b)
      | _ => some (.bin op none a b)
  | .unOp op _ x => ob (srcOf x) fun a => some (.un op a)
  | .convert s d x => ob (convOf T s d) fun k => ob (srcOf x) fun a => some (.conv k a)
  | .makeInterface t x => ob (T t) fun ti => match ti.d with
      | .iface | .other => none
      | _ => ob (srcOf x) fun a => some (.mkIface t a)
  | .makeFunc (.func f) first captured => ob (srcsOf first.toList) fun a => ob (srcsOf captured.toList) fun c => some (.mkFunc f a c)
  | .makeSlice t l c => ob (T t) fun ti => match ti.d with
      | .slice e => ob (T e) fun ei => ob (zeroOf ei) fun z => ob (srcOf l) fun l => ob (srcOf c) fun c =>
          if ei.size = 1 ∧ ei.agg = false then some (.mkSlice z ei.bytes l c) else none
      | _ => none
  | .slice t x lo hi mx => ob (seqOf T t) fun k => ob (srcOf x) fun x => ob (osrcOf lo) fun lo => ob (osrcOf hi) fun hi => ob (osrcOf mx) fun mx => some (.sl k x lo hi mx)
  | .fieldAddr t x i => ob (T t) fun ti => match ti.d with
      | .struct fs => ob (fldOf fs i) fun f => ob (T f.1) fun fi => if fi.size = 0 then none else ob (srcOf x) fun a => some (.faddr f.2 a)
      | _ => none
  | .field t x i => ob (T t) fun ti => match ti.d with
      | .struct fs => ob (fldOf fs i) fun f => ob (T f.1) fun fi => ob (srcOf x) fun a => some (.field f.2 fi.size fi.agg a)
      | _ => none
  | .indexAddr t x i => ob (seqOf T t) fun k => ob (srcOf x) fun a => ob (srcOf i) fun b => match k with | .str => none | k => some (.iaddr k a b)
  | .index t x i => ob (seqOf T t) fun k => ob (srcOf x) fun a => ob (srcOf i) fun b => match k with | .slice _ => none | k => some (.idx k a b)
  | .extract x i => ob (srcOf x) fun a => some (.extract a i)
  | .call { callee := .builtin .len, args, argTypes } => match args.toList, argTypes.toList with
      | [x], [t] => ob (seqOf T t) fun k => ob (srcOf x) fun a => some (.len k a)
      | _, _ => none
  | .call { callee := .builtin .cap, args, argTypes } => match args.toList, argTypes.toList with
      | [x], [t] => ob (T t) fun ti => match ti.d with | .slice _ => ob (srcOf x) fun a => some (.cap a) | _ => none
      | _, _ => none
  | .call { callee := .builtin .max, args, argTypes := _ } => ob (srcsOf args.toList) fun l => some (.minmax true l)
  | .call { callee := .builtin .min, args, argTypes := _ } => ob (srcsOf args.toList) fun l => some (.minmax false l)
  | .call { callee := .builtin .append, args, argTypes } => match args.toList, argTypes.toList with
      | [s, x], [t, u] => ob (T t) fun ti => match ti.d with
          | .slice e => ob (T e) fun ei => ob (T u) fun ui => match ui.d with
              | .slice _ | .string => ob (srcOf s) fun s => ob (srcOf x) fun x => some (.append ei.size ei.bytes s x)
              | _ => some .bad
          | _ => none
      | _, _ => none
  | .call { callee := .value f, args, argTypes := _ } => ob (srcOf f) fun f => ob (srcsOf args.toList) fun l => some (.call f l)
  | .panic _ => some .bad
  | _ => none

def guardOf (ops : Array Oper) : Option (Nat × Bool) → Option (Option (Nat × Bool))
  | none => some none
  | some (j, b) => match ops[j]? with
    | some o => match o.dst with
      | some d => some (some (d, b))
      | none => none
    | none => none

def operOf (T : Tys) (nt : Nat) (ops : Array Oper) (o : Oper) : Option IOper :=
  ob (opOf T o.op) fun op => ob (guardOf ops o.guard) fun g => match o.dst with
    | none => some ⟨none, op, g⟩
    | some d => if d < nt then some ⟨some d, op, g⟩ else none
def opersOf (T : Tys) (nt : Nat) (ops : Array Oper) : List Oper → Option (List IOper)
  | [] => some []
  | o :: r => ob (operOf T nt ops o) fun a => ob (opersOf T nt ops r) fun l => some (a :: l)

structure Ann where
  keep : List Nat
  pop : Bool

end Go.Abs
/- How abstract values stand to the machine's. -/
namespace Go.Abs
set_option linter.unusedVariables false

/-- a token's array at a length: none with spare cells; or the block, its length, an element's cells -/
inductive Tok where
  | tight | arr (g cap sz : Nat)

/-- what has been learnt of memory: cells that nobody writes any more; blocks; arrays -/
structure K where
  m : Nat → Nat → Option Value
  φ : Nat → Option Nat
  τ : Nat → Nat → Option Tok

structure K.le (κ κ' : K) : Prop where
  m : ∀ b o v, κ.m b o = some v → κ'.m b o = some v
  φ : ∀ i b, κ.φ i = some b → κ'.φ i = some b
  τ : ∀ t n k, κ.τ t n = some k → κ'.τ t n = some k
theorem K.le.refl (κ : K) : K.le κ κ := ⟨fun _ _ _ h => h, fun _ _ h => h, fun _ _ _ h => h⟩
theorem K.le.trans {a b c : K} (h : K.le a b) (h' : K.le b c) : K.le a c :=
  ⟨fun _ _ _ e => h'.m _ _ _ (h.m _ _ _ e), fun _ _ e => h'.φ _ _ (h.φ _ _ e), fun _ _ _ e => h'.τ _ _ _ (h.τ _ _ _ e)⟩

/-- a run of cells -/
inductive V (κ : K) : AV → Value → Prop
  | bool (b : Bool) : V κ (.bool b) (.bool b)
  | int (k : IntKind) (n : Int) : V κ (.int k n) (.int k n)
  | str (s : ByteArray) : V κ (.str s) (.string s)
  | nilp : V κ .nilp (.pointer none)
  | ptr {id off b : Nat} (h : κ.φ id = some b) : V κ (.ptr id off) (.pointer (some ⟨b, off, none⟩))
  | eptr {cs : List AV} {b o : Nat} (hm : ∀ (j : Nat) (c : AV), cs[j]? = some c → (κ.m b (o + j)).isSome = true)
      (hv : ∀ (j : Nat) (c : AV) (v : Value), cs[j]? = some c → κ.m b (o + j) = some v → V κ c v) : V κ (.eptr cs) (.pointer (some ⟨b, o, none⟩))
  | slnil (sz : Nat) (rm : Room) : V κ (.slice true sz [] rm) (.slice none 0 0)
  | slice {sz : Nat} {es : List AV} {rm : Room} {b o cap : Nat} (hcap : es.length ≤ cap) (hfull : rm = .full → cap = es.length)
      (hown : ∀ t, rm = .own t → ∃ k, κ.τ t es.length = some k ∧ (k = .tight → cap = es.length) ∧ ∀ g c s, k = .arr g c s → b = g ∧ o = 0 ∧ cap = c ∧ s = sz)
      (hsz : ∀ (i : Nat) (e : AV), es[i]? = some e → e.cells.length = sz ∧ e.cells.all AV.scalar = true)
      (hm : ∀ (i : Nat) (e : AV), es[i]? = some e → ∀ (j : Nat) (c : AV), e.cells[j]? = some c → (κ.m b (o + i * sz + j)).isSome = true)
      (hv : ∀ (i : Nat) (e : AV), es[i]? = some e → ∀ (j : Nat) (c : AV) (v : Value), e.cells[j]? = some c → κ.m b (o + i * sz + j) = some v → V κ c v) :
      V κ (.slice false sz es rm) (.slice (some ⟨b, o, none⟩) es.length cap)
  | sref {id off len cap b : Nat} (h : κ.φ id = some b) (hl : len ≤ cap) : V κ (.sref id off len cap) (.slice (some ⟨b, off, none⟩) len cap)
  | func {f : FuncId} {x y : List AV} {x' y' : Array Value} (hx : x.length = x'.size) (hx' : ∀ (i : Nat) (a : AV) (v : Value), x[i]? = some a → x'[i]? = some v → V κ a v)
      (hy : y.length = y'.size) (hy' : ∀ (i : Nat) (a : AV) (v : Value), y[i]? = some a → y'[i]? = some v → V κ a v) : V κ (.func (.func f) x y) (.func (.func f) x' y')
  | nilf : V κ .nilf .nilFunc
  | iface {t : TypeId} {a : AV} {v : Value} (h : V κ a v) : V κ (.iface t a) (.iface t v)
  | nili : V κ .nili .nilIface
  | agg {cs : List AV} {vs : Array Value} (hl : cs.length = vs.size) (h : ∀ (i : Nat) (a : AV) (v : Value), cs[i]? = some a → vs[i]? = some v → V κ a v) : V κ (.agg cs) (.agg vs)
  | tup {cs : List AV} {vs : Array Value} (hl : cs.length = vs.size) (h : ∀ (i : Nat) (a : AV) (v : Value), cs[i]? = some a → vs[i]? = some v → V κ a v) : V κ (.tup cs) (.tuple vs)

theorem K.le.same {κ κ' : K} (h : K.le κ κ') {b o : Nat} {v : Value} (hs : (κ.m b o).isSome = true) (hv : κ'.m b o = some v) : κ.m b o = some v := by
  cases e : κ.m b o with
  | none => rw [e] at hs; cases hs
  | some u => have := h.m _ _ _ e; rw [this] at hv; exact hv
theorem K.le.isSome {κ κ' : K} (h : K.le κ κ') {b o : Nat} (hs : (κ.m b o).isSome = true) : (κ'.m b o).isSome = true := by
  cases e : κ.m b o with
  | none => rw [e] at hs; cases hs
  | some u => rw [h.m _ _ _ e]; rfl

theorem V.mono {κ κ' : K} (h : K.le κ κ') {a : AV} {v : Value} (hv : V κ a v) : V κ' a v := by
  induction hv with
  | bool b => exact .bool b
  | int k n => exact .int k n
  | str s => exact .str s
  | nilp => exact .nilp
  | ptr e => exact .ptr (h.φ _ _ e)
  | eptr hm _ ih => exact .eptr (fun j c hc => h.isSome (hm j c hc)) fun j c v hc hv => ih j c v hc (h.same (hm j c hc) hv)
  | slnil sz rm => exact .slnil sz rm
  | slice hcap hfull hown hsz hm _ ih =>
    exact .slice hcap hfull (fun t e => let ⟨k, h1, h2⟩ := hown t e; ⟨k, h.τ _ _ _ h1, h2⟩) hsz (fun i e he j c hc => h.isSome (hm i e he j c hc))
      (fun i e he j c v hc hv => ih i e he j c v hc (h.same (hm i e he j c hc) hv))
  | sref e hl => exact .sref (h.φ _ _ e) hl
  | func hx _ hy _ ihx ihy => exact .func hx ihx hy ihy
  | nilf => exact .nilf
  | iface _ ih => exact .iface ih
  | nili => exact .nili
  | agg hl _ ih => exact .agg hl ih
  | tup hl _ ih => exact .tup hl ih

/-- lists, one by one -/
def VL (κ : K) (l : List AV) (vs : List Value) : Prop := l.length = vs.length ∧ ∀ (i : Nat) (a : AV), l[i]? = some a → ∃ v, vs[i]? = some v ∧ V κ a v

theorem VL.of {κ : K} {l : List AV} {vs : List Value} (hl : l.length = vs.length) (h : ∀ (i : Nat) (a : AV) (v : Value), l[i]? = some a → vs[i]? = some v → V κ a v) : VL κ l vs := by
  refine ⟨hl, fun i a ha => ?_⟩
  have hi : i < vs.length := by
    rcases Nat.lt_or_ge i l.length with hx | hx
    · omega
    · rw [List.getElem?_eq_none hx] at ha; cases ha
  exact ⟨vs[i], List.getElem?_eq_getElem hi, h i a _ ha (List.getElem?_eq_getElem hi)⟩
theorem VL.to {κ : K} {l : List AV} {vs : List Value} (h : VL κ l vs) (i : Nat) (a : AV) (v : Value) (ha : l[i]? = some a) (hv : vs[i]? = some v) : V κ a v := by
  obtain ⟨u, h1, h2⟩ := h.2 i a ha
  rw [h1] at hv; exact Option.some.inj hv ▸ h2
/-- cells that nobody writes any more -/
def MVL (κ : K) (b o : Nat) (cs : List AV) : Prop := ∃ vs : List Value, VL κ cs vs ∧ ∀ j v, vs[j]? = some v → κ.m b (o + j) = some v

theorem VL.mono {κ κ' : K} (h : K.le κ κ') {l : List AV} {vs : List Value} (hv : VL κ l vs) : VL κ' l vs :=
  ⟨hv.1, fun i a ha => let ⟨v, h1, h2⟩ := hv.2 i a ha; ⟨v, h1, h2.mono h⟩⟩
theorem VL.nil (κ : K) : VL κ [] [] := ⟨rfl, fun i a h => by simp at h⟩
theorem VL.cons {κ : K} {a : AV} {v : Value} {l : List AV} {vs : List Value} (h : V κ a v) (h' : VL κ l vs) : VL κ (a :: l) (v :: vs) := by
  refine ⟨by simp [h'.1], fun i x hx => ?_⟩
  cases i with
  | zero => simp at hx; subst hx; exact ⟨v, by simp, h⟩
  | succ i => simp at hx; obtain ⟨u, h1, h2⟩ := h'.2 i x hx; exact ⟨u, by simpa using h1, h2⟩
theorem VL.inv_nil {κ : K} {vs : List Value} (h : VL κ [] vs) : vs = [] := List.eq_nil_of_length_eq_zero h.1.symm
theorem VL.inv_cons {κ : K} {a : AV} {l : List AV} {vs : List Value} (h : VL κ (a :: l) vs) : ∃ v r, vs = v :: r ∧ V κ a v ∧ VL κ l r := by
  cases vs with
  | nil => simp [VL] at h
  | cons v r =>
    refine ⟨v, r, rfl, ?_, ?_, ?_⟩
    · obtain ⟨u, h1, h2⟩ := h.2 0 a (by simp)
      simp at h1; exact h1 ▸ h2
    · simpa using h.1
    · intro i x hx
      obtain ⟨u, h1, h2⟩ := h.2 (i + 1) x (by simpa using hx)
      exact ⟨u, by simpa using h1, h2⟩
theorem VL.append {κ : K} {l l' : List AV} {vs vs' : List Value} (h : VL κ l vs) (h' : VL κ l' vs') : VL κ (l ++ l') (vs ++ vs') := by
  induction l generalizing vs with
  | nil => have := h.inv_nil; subst this; exact h'
  | cons a l ih =>
    obtain ⟨v, r, rfl, h1, h2⟩ := h.inv_cons
    exact VL.cons h1 (ih h2)
theorem VL.take {κ : K} {l : List AV} {vs : List Value} (h : VL κ l vs) (n : Nat) : VL κ (l.take n) (vs.take n) := by
  refine ⟨by simp [h.1], fun i a ha => ?_⟩
  rw [List.getElem?_take] at ha
  split at ha
  · obtain ⟨v, h1, h2⟩ := h.2 i a ha
    exact ⟨v, by rw [List.getElem?_take, if_pos (by assumption)]; exact h1, h2⟩
  · cases ha
theorem VL.drop {κ : K} {l : List AV} {vs : List Value} (h : VL κ l vs) (n : Nat) : VL κ (l.drop n) (vs.drop n) := by
  refine ⟨by simp [h.1], fun i a ha => ?_⟩
  rw [List.getElem?_drop] at ha
  obtain ⟨v, h1, h2⟩ := h.2 _ a ha
  exact ⟨v, by rw [List.getElem?_drop]; exact h1, h2⟩
theorem VL.get {κ : K} {l : List AV} {vs : List Value} (h : VL κ l vs) {i : Nat} {a : AV} (ha : l[i]? = some a) : ∃ v, vs[i]? = some v ∧ V κ a v := h.2 i a ha
theorem V.agg_iff {κ : K} {cs : List AV} {vs : Array Value} : V κ (.agg cs) (.agg vs) ↔ VL κ cs vs.toList := by
  constructor
  · intro h
    cases h with
    | agg hl h => exact VL.of (by simpa using hl) fun i a v ha hv => h i a v ha (by simpa using hv)
  · intro h
    exact .agg (by simpa using h.1) fun i a v ha hv => h.to i a v ha (by simpa using hv)
theorem V.tup_iff {κ : K} {cs : List AV} {vs : Array Value} : V κ (.tup cs) (.tuple vs) ↔ VL κ cs vs.toList := by
  constructor
  · intro h
    cases h with
    | tup hl h => exact VL.of (by simpa using hl) fun i a v ha hv => h i a v ha (by simpa using hv)
  · intro h
    exact .tup (by simpa using h.1) fun i a v ha hv => h.to i a v ha (by simpa using hv)
theorem V.func_iff {κ : K} {f f' : Fn} {x y : List AV} {x' y' : Array Value} : V κ (.func f x y) (.func f' x' y') ↔ (∃ g, f = .func g ∧ f' = .func g) ∧ VL κ x x'.toList ∧ VL κ y y'.toList := by
  constructor
  · intro h
    cases h with
    | func hx hx' hy hy' => exact ⟨⟨_, rfl, rfl⟩, VL.of (by simpa using hx) fun i a v ha hv => hx' i a v ha (by simpa using hv), VL.of (by simpa using hy) fun i a v ha hv => hy' i a v ha (by simpa using hv)⟩
  · rintro ⟨⟨g, rfl, rfl⟩, h1, h2⟩
    exact .func (by simpa using h1.1) (fun i a v ha hv => h1.to i a v ha (by simpa using hv)) (by simpa using h2.1) (fun i a v ha hv => h2.to i a v ha (by simpa using hv))
theorem MVL.of {κ : K} {b o : Nat} {cs : List AV} (hm : ∀ (j : Nat) (c : AV), cs[j]? = some c → (κ.m b (o + j)).isSome = true)
    (hv : ∀ (j : Nat) (c : AV) (v : Value), cs[j]? = some c → κ.m b (o + j) = some v → V κ c v) : MVL κ b o cs := by
  refine ⟨(List.range cs.length).map fun j => (κ.m b (o + j)).getD undef, VL.of (by simp) fun i a v ha hv' => ?_, fun j v hj => ?_⟩
  · have hi : i < cs.length := by
      rcases Nat.lt_or_ge i cs.length with hx | hx
      · exact hx
      · rw [List.getElem?_eq_none hx] at ha; cases ha
    have hs := hm i a ha
    simp [hi] at hv'
    cases e : κ.m b (o + i) with
    | none => rw [e] at hs; cases hs
    | some u => rw [e] at hv'; simp at hv'; subst hv'; exact hv i a u ha e
  · simp only [List.getElem?_map, Option.map_eq_some_iff] at hj
    obtain ⟨q, hq, rfl⟩ := hj
    have hj : j < cs.length := by
      rcases Nat.lt_or_ge j cs.length with hx | hx
      · exact hx
      · rw [List.getElem?_eq_none (by simpa using hx)] at hq; cases hq
    rw [List.getElem?_range hj] at hq
    cases hq
    have hs := hm j cs[j] (by simp [hj])
    cases e : κ.m b (o + j) with
    | none => rw [e] at hs; cases hs
    | some u => rfl
theorem MVL.isSome {κ : K} {b o : Nat} {cs : List AV} (h : MVL κ b o cs) (j : Nat) (c : AV) (hc : cs[j]? = some c) : (κ.m b (o + j)).isSome = true := by
  obtain ⟨vs, h1, h2⟩ := h
  obtain ⟨v, hv, _⟩ := h1.2 j c hc
  rw [h2 j v hv]; rfl
theorem MVL.val {κ : K} {b o : Nat} {cs : List AV} (h : MVL κ b o cs) (j : Nat) (c : AV) (v : Value) (hc : cs[j]? = some c) (hv : κ.m b (o + j) = some v) : V κ c v := by
  obtain ⟨vs, h1, h2⟩ := h
  obtain ⟨u, hu, hV⟩ := h1.2 j c hc
  rw [h2 j u hu] at hv
  exact Option.some.inj hv ▸ hV
theorem MVL.mono {κ κ' : K} (h : K.le κ κ') {b o : Nat} {cs : List AV} (hv : MVL κ b o cs) : MVL κ' b o cs :=
  let ⟨vs, h1, h2⟩ := hv; ⟨vs, h1.mono h, fun j v e => h.m _ _ _ (h2 j v e)⟩
theorem MVL.take {κ : K} {b o : Nat} {cs : List AV} (h : MVL κ b o cs) (n : Nat) : MVL κ b o (cs.take n) :=
  let ⟨vs, h1, h2⟩ := h; ⟨vs.take n, h1.take n, fun j v e => h2 j v (by rw [List.getElem?_take] at e; split at e <;> simp_all)⟩
theorem MVL.drop {κ : K} {b o : Nat} {cs : List AV} (h : MVL κ b o cs) (n : Nat) : MVL κ b (o + n) (cs.drop n) :=
  let ⟨vs, h1, h2⟩ := h; ⟨vs.drop n, h1.drop n, fun j v e => by rw [List.getElem?_drop] at e; have := h2 _ v e; rwa [← Nat.add_assoc] at this⟩
theorem V.eptr_iff {κ : K} {cs : List AV} {v : Value} : V κ (.eptr cs) v ↔ ∃ b o, v = .pointer (some ⟨b, o, none⟩) ∧ MVL κ b o cs := by
  constructor
  · intro h
    cases h with
    | eptr hm hv => exact ⟨_, _, rfl, MVL.of hm hv⟩
  · rintro ⟨b, o, rfl, h⟩
    exact .eptr h.isSome h.val
theorem V.undef (κ : K) : V κ AV.undef undef := V.tup_iff.2 (VL.nil κ)

theorem V.cells {κ : K} {a : AV} {v : Value} (h : V κ a v) : VL κ a.cells v.cells.toList := by
  cases h with
  | agg hl h => exact V.agg_iff.1 (.agg hl h)
  | bool b => exact VL.cons (.bool b) (VL.nil κ)
  | int k n => exact VL.cons (.int k n) (VL.nil κ)
  | str s => exact VL.cons (.str s) (VL.nil κ)
  | nilp => exact VL.cons .nilp (VL.nil κ)
  | ptr e => exact VL.cons (.ptr e) (VL.nil κ)
  | eptr e f => exact VL.cons (.eptr e f) (VL.nil κ)
  | slnil sz rm => exact VL.cons (.slnil sz rm) (VL.nil κ)
  | slice a b c d e f => exact VL.cons (.slice a b c d e f) (VL.nil κ)
  | sref e hl => exact VL.cons (.sref e hl) (VL.nil κ)
  | func a b c d => exact VL.cons (.func a b c d) (VL.nil κ)
  | nilf => exact VL.cons .nilf (VL.nil κ)
  | iface h => exact VL.cons (.iface h) (VL.nil κ)
  | nili => exact VL.cons .nili (VL.nil κ)
  | tup hl h => exact VL.cons (.tup hl h) (VL.nil κ)

theorem V.scalar {κ : K} {a : AV} {v : Value} (h : V κ a v) : v.oneCell' = a.scalar := by cases h <;> rfl
theorem V.notagg {κ : K} {a : AV} {v : Value} (h : V κ a v) (hs : a.scalar = true) : ∀ vs, v ≠ .agg vs := by
  intro vs e; subst e; cases h; simp [AV.scalar] at hs

theorem V.const0 {v : Value} {a : AV} (κ : K) (h : ofConst0 v = some a) : V κ a v := by
  unfold ofConst0 at h
  split at h <;> simp at h <;> subst h
  · exact .bool _
  · exact .int _ _
  · exact .str _
  · exact .nilp
  · exact .slnil _ _
  · exact .nilf
  · exact .nili
theorem VL.consts {l : List Value} {r : List AV} (κ : K) (h : ofConsts l = some r) : VL κ r l := by
  induction l generalizing r with
  | nil => simp [ofConsts] at h; subst h; exact VL.nil κ
  | cons v l ih =>
    obtain ⟨a, ha, h⟩ := ob_eq_some.1 h
    obtain ⟨q, hq, h⟩ := ob_eq_some.1 h
    simp at h; subst h
    exact VL.cons (V.const0 κ ha) (ih hq)
theorem V.const {v : Value} {a : AV} (κ : K) (h : ofConst v = some a) : V κ a v := by
  cases v with
  | agg cs =>
    obtain ⟨l, hl, h⟩ := ob_eq_some.1 (show ob (ofConsts cs.toList) (fun l => some (AV.agg l)) = some a from h)
    simp at h; subst h
    exact V.agg_iff.2 (VL.consts κ hl)
  | _ => exact V.const0 κ h

/-! #### memory -/
structure BlkOk (κ : K) (w : World) (b : Nat) (cs : List AV) : Prop where
  row : ∃ e vs, w.heap[b]? = some (.cells vs e (0, 0)) ∧ VL κ cs vs.toList
  free : ∀ o, κ.m b o = none

structure TokOk (κ : K) (w : World) (n g c s : Nat) : Prop where
  le : n ≤ c
  row : ∃ e cur, w.heap[g]? = some (.cells cur e (0, 0)) ∧ cur.size = c * s
  free : ∀ o, n * s ≤ o → κ.m g o = none
  blk : ∀ id, κ.φ id ≠ some g

/-- memory is as the abstract heap says -/
structure R (κ : K) (h : AH) (w : World) : Prop where
  m : ∀ b o v, κ.m b o = some v → w.cell? ⟨b, o, none⟩ = some v
  dom : ∀ id b, κ.φ id = some b → id < h.blocks.length ∧ b < w.heap.size
  inj : ∀ i j b, κ.φ i = some b → κ.φ j = some b → i = j
  blk : ∀ id bk b, h.get id = some bk → κ.φ id = some b → BlkOk κ w b bk.cs
  tlt : ∀ t n k, κ.τ t n = some k → ∃ n', h.toks[t]? = some n' ∧ n ≤ n'
  tok : ∀ t n g c s, h.toks[t]? = some n → κ.τ t n = some (.arr g c s) → TokOk κ w n g c s
  tdj : ∀ t t' n n' g c c' s s', h.toks[t]? = some n → κ.τ t n = some (.arr g c s) → h.toks[t']? = some n' → κ.τ t' n' = some (.arr g c' s') → t = t'

/-- the blocks that may be written -/
def Foot (κ : K) (h : AH) (b : Nat) : Prop :=
  (∃ id bk, h.get id = some bk ∧ κ.φ id = some b) ∨ ∃ t n c s, h.toks[t]? = some n ∧ κ.τ t n = some (.arr b c s)

/-- a step: what was learnt stays; nothing turns but what may be written -/
structure Go (κ : K) (h : AH) (w : World) (κ' : K) (h' : AH) (w' : World) : Prop where
  le : K.le κ κ'
  os : w'.os = w.os
  tape : w'.tape = w.tape
  output : w'.output = w.output
  size : w.heap.size ≤ w'.heap.size
  frame : ∀ b, b < w.heap.size → ¬ Foot κ h b → w'.heap[b]? = w.heap[b]?
  foot : ∀ b, Foot κ' h' b → Foot κ h b ∨ w.heap.size ≤ b
  grow : ∀ b o v, κ'.m b o = some v → κ.m b o = some v ∨ Foot κ h b ∨ w.heap.size ≤ b
  len : h.blocks.length ≤ h'.blocks.length

theorem Go.refl (κ : K) (h : AH) (w : World) : Go κ h w κ h w := ⟨.refl κ, rfl, rfl, rfl, Nat.le_refl _, fun _ _ _ => rfl, fun _ h => .inl h, fun _ _ _ h => .inl h, Nat.le_refl _⟩
theorem Go.trans {κ₁ κ₂ κ₃ : K} {h₁ h₂ h₃ : AH} {w₁ w₂ w₃ : World} (a : Go κ₁ h₁ w₁ κ₂ h₂ w₂) (b : Go κ₂ h₂ w₂ κ₃ h₃ w₃) : Go κ₁ h₁ w₁ κ₃ h₃ w₃ where
  le := a.le.trans b.le
  os := b.os.trans a.os
  tape := b.tape.trans a.tape
  output := b.output.trans a.output
  size := Nat.le_trans a.size b.size
  frame := fun x hx hn => by
    rw [b.frame x (Nat.lt_of_lt_of_le hx a.size) ?_, a.frame x hx hn]
    intro hf
    rcases a.foot x hf with h | h
    · exact hn h
    · omega
  foot := fun x hx => by
    rcases b.foot x hx with h | h
    · exact a.foot x h
    · exact .inr (Nat.le_trans a.size h)
  grow := fun x o v hx => by
    rcases b.grow x o v hx with h | h | h
    · exact a.grow x o v h
    · rcases a.foot x h with h | h
      · exact .inr (.inl h)
      · exact .inr (.inr h)
    · exact .inr (.inr (Nat.le_trans a.size h))
  len := Nat.le_trans a.len b.len

/-- a draw -/
theorem R.drew {κ : K} {h : AH} {w : World} (r : R κ h w) : R κ h w.drew :=
  ⟨r.m, r.dom, r.inj, fun id bk b h1 h2 => let x := r.blk id bk b h1 h2; ⟨x.row, x.free⟩, r.tlt, fun t n g c s h1 h2 => let x := r.tok t n g c s h1 h2; ⟨x.le, x.row, x.free, x.blk⟩, r.tdj⟩
theorem Go.drew (κ : K) (h : AH) (w : World) : Go κ h w κ h w.drew := ⟨.refl κ, rfl, rfl, rfl, Nat.le_refl _, fun _ _ _ => rfl, fun _ h => .inl h, fun _ _ _ h => .inl h, Nat.le_refl _⟩

theorem heap_alloc_lt (w : World) (o : Obj) {b : Nat} (h : b < w.heap.size) : (w.alloc o).heap[b]? = w.heap[b]? := heap_alloc_old w o b h

/-- a new block that nothing tells of -/
theorem R.alloc {κ : K} {h : AH} {w : World} (r : R κ h w) (o : Obj) : R κ h (w.alloc o) := by
  have lt : ∀ {b e vs}, w.heap[b]? = some (.cells vs e (0, 0)) → b < w.heap.size := by
    intro b e vs hb
    rcases Nat.lt_or_ge b w.heap.size with h | h
    · exact h
    · rw [Array.getElem?_eq_none h] at hb; cases hb
  refine ⟨fun b o' v hv => ?_, fun id b e => ?_, r.inj, fun id bk b h1 h2 => ?_, r.tlt, fun t n g c s h1 h2 => ?_, r.tdj⟩
  · have h0 := r.m b o' v hv
    rw [World.cell?_alloc_lt _ _ _ (block_lt_of_cell h0)]; exact h0
  · have := r.dom id b e; exact ⟨this.1, by simp; omega⟩
  · have x := r.blk id bk b h1 h2
    obtain ⟨e, vs, hr, hv⟩ := x.row
    exact ⟨⟨e, vs, by rw [heap_alloc_lt _ _ (lt hr)]; exact hr, hv⟩, x.free⟩
  · have x := r.tok t n g c s h1 h2
    obtain ⟨e, cur, hr, hs⟩ := x.row
    exact ⟨x.le, ⟨e, cur, by rw [heap_alloc_lt _ _ (lt hr)]; exact hr, hs⟩, x.free, x.blk⟩
theorem Go.alloc (κ : K) (h : AH) (w : World) (o : Obj) : Go κ h w κ h (w.alloc o) :=
  ⟨.refl κ, rfl, rfl, rfl, by simp, fun b hb _ => heap_alloc_lt w o hb, fun _ h => .inl h, fun _ _ _ h => .inl h, Nat.le_refl _⟩

/-- cells of a block become fixed for good -/
def K.fix (κ : K) (b : Nat) (f : Nat → Option Value) : K := { κ with m := fun b' o => if b' = b then (match κ.m b o with | some v => some v | none => f o) else κ.m b' o }
theorem K.fix_le (κ : K) (b : Nat) (f : Nat → Option Value) : K.le κ (κ.fix b f) := by
  refine ⟨fun b' o v h => ?_, fun _ _ h => h, fun _ _ _ h => h⟩
  simp only [K.fix]
  by_cases e : b' = b
  · subst e; simp [h]
  · simp [e, h]
theorem K.fix_at {κ : K} {b o : Nat} {f : Nat → Option Value} {v : Value} (h0 : κ.m b o = none) (h : f o = some v) : (κ.fix b f).m b o = some v := by
  simp [K.fix, h0, h]

end Go.Abs
/- The operations that touch no memory. -/
namespace Go.Abs
set_option linter.unusedVariables false

/-! #### elements of a slice -/
theorem MVL.append_iff {κ : K} {b o : Nat} {l l' : List AV} : MVL κ b o (l ++ l') ↔ MVL κ b o l ∧ MVL κ b (o + l.length) l' := by
  constructor
  · intro h
    refine ⟨by have := h.take l.length; simpa using this, by have := h.drop l.length; simpa using this⟩
  · rintro ⟨⟨vs, h1, h2⟩, ⟨us, h3, h4⟩⟩
    refine ⟨vs ++ us, h1.append h3, fun j v e => ?_⟩
    rw [List.getElem?_append] at e
    split at e
    · exact h2 j v e
    · have := h4 _ v e
      rw [← h1.1] at this
      rwa [show o + l.length + (j - l.length) = o + j by rename_i h; have := h1.1; omega] at this

def EL (κ : K) (b o sz : Nat) (es : List AV) : Prop := ∀ (i : Nat) (e : AV), es[i]? = some e → (e.cells.length = sz ∧ e.cells.all AV.scalar = true) ∧ MVL κ b (o + i * sz) e.cells

theorem EL.nil (κ : K) (b o sz : Nat) : EL κ b o sz [] := fun i e h => by simp at h
theorem EL.cons_iff {κ : K} {b o sz : Nat} {e : AV} {es : List AV} : EL κ b o sz (e :: es) ↔ ((e.cells.length = sz ∧ e.cells.all AV.scalar = true) ∧ MVL κ b o e.cells) ∧ EL κ b (o + sz) sz es := by
  constructor
  · intro h
    refine ⟨by have := h 0 e (by simp); simpa using this, fun i x hx => ?_⟩
    have := h (i + 1) x (by simpa using hx)
    rwa [Nat.succ_mul, Nat.add_comm (i * sz) sz, ← Nat.add_assoc] at this
  · rintro ⟨h0, h⟩ i x hx
    cases i with
    | zero => simp at hx; subst hx; simpa using h0
    | succ i =>
      have := h i x (by simpa using hx)
      rwa [Nat.succ_mul, Nat.add_comm (i * sz) sz, ← Nat.add_assoc]
theorem EL.flat {κ : K} {b sz : Nat} {es : List AV} : ∀ {o : Nat}, EL κ b o sz es → MVL κ b o (es.flatMap AV.cells) ∧ (es.flatMap AV.cells).length = es.length * sz := by
  induction es with
  | nil => intro o _; exact ⟨⟨[], VL.nil κ, fun j v h => by simp at h⟩, by simp⟩
  | cons e es ih =>
    intro o h
    obtain ⟨⟨⟨h1, _⟩, h2⟩, h3⟩ := EL.cons_iff.1 h
    obtain ⟨h4, h5⟩ := ih h3
    simp only [List.flatMap_cons, List.length_append, List.length_cons]
    refine ⟨MVL.append_iff.2 ⟨h2, by rw [h1]; exact h4⟩, by rw [h1, h5, Nat.succ_mul]; omega⟩
theorem EL.of_flat {κ : K} {b sz : Nat} {es : List AV} (hs : ∀ e ∈ es, e.cells.length = sz ∧ e.cells.all AV.scalar = true) : ∀ {o : Nat}, MVL κ b o (es.flatMap AV.cells) → EL κ b o sz es := by
  induction es with
  | nil => intro o _; exact EL.nil κ b o sz
  | cons e es ih =>
    intro o h
    simp only [List.flatMap_cons] at h
    obtain ⟨h1, h2⟩ := MVL.append_iff.1 h
    have h3 := hs e (by simp)
    rw [h3.1] at h2
    exact EL.cons_iff.2 ⟨⟨h3, h1⟩, ih (fun x hx => hs x (by simp [hx])) h2⟩
theorem EL.mono {κ κ' : K} (h : K.le κ κ') {b o sz : Nat} {es : List AV} (he : EL κ b o sz es) : EL κ' b o sz es := fun i e hx => ⟨(he i e hx).1, (he i e hx).2.mono h⟩
theorem EL.append {κ : K} {b o sz : Nat} {es xs : List AV} (h : EL κ b o sz es) (h' : EL κ b (o + es.length * sz) sz xs) : EL κ b o sz (es ++ xs) := by
  intro i e hx
  rw [List.getElem?_append] at hx
  split at hx
  · exact h i e hx
  · rename_i hge
    have := h' _ e hx
    rwa [show o + es.length * sz + (i - es.length) * sz = o + i * sz by rw [Nat.add_assoc, ← Nat.add_mul]; congr 2; omega] at this
theorem EL.take {κ : K} {b o sz : Nat} {es : List AV} (h : EL κ b o sz es) (n : Nat) : EL κ b o sz (es.take n) := by
  intro i e hx
  rw [List.getElem?_take] at hx
  split at hx
  · exact h i e hx
  · cases hx
theorem EL.drop {κ : K} {b o sz : Nat} {es : List AV} (h : EL κ b o sz es) (n : Nat) : EL κ b (o + n * sz) sz (es.drop n) := by
  intro i e hx
  rw [List.getElem?_drop] at hx
  have := h _ e hx
  rwa [Nat.add_mul, ← Nat.add_assoc] at this
theorem EL.sz {κ : K} {b o sz : Nat} {es : List AV} (h : EL κ b o sz es) : ∀ e ∈ es, e.cells.length = sz ∧ e.cells.all AV.scalar = true := by
  intro e he
  obtain ⟨i, hi, rfl⟩ := List.getElem_of_mem he
  exact (h i _ (List.getElem?_eq_getElem hi)).1

/-- what a slice's value is -/
theorem V.slice_iff {κ : K} {nl : Bool} {sz : Nat} {es : List AV} {rm : Room} {v : Value} : V κ (.slice nl sz es rm) v ↔
    (nl = true ∧ es = [] ∧ v = .slice none 0 0) ∨ (nl = false ∧ ∃ b o cap, v = .slice (some ⟨b, o, none⟩) es.length cap ∧ es.length ≤ cap ∧ (rm = .full → cap = es.length) ∧
      (∀ t, rm = .own t → ∃ k, κ.τ t es.length = some k ∧ (k = .tight → cap = es.length) ∧ ∀ g c s, k = .arr g c s → b = g ∧ o = 0 ∧ cap = c ∧ s = sz) ∧ EL κ b o sz es) := by
  constructor
  · intro h
    cases h with
    | slnil => exact .inl ⟨rfl, rfl, rfl⟩
    | slice hcap hfull hown hsz hm hv => exact .inr ⟨rfl, _, _, _, rfl, hcap, hfull, hown, fun i e he => ⟨hsz i e he, MVL.of (hm i e he) (hv i e he)⟩⟩
  · rintro (⟨rfl, rfl, rfl⟩ | ⟨rfl, b, o, cap, rfl, hcap, hfull, hown, hel⟩)
    · exact .slnil sz rm
    · exact .slice hcap hfull hown (fun i e he => (hel i e he).1) (fun i e he => (hel i e he).2.isSome) (fun i e he => (hel i e he).2.val)

/-! #### types -/
def descOk (P : Program) (t : TypeId) : TD → Prop
  | .bool => P.underlying t = some .bool
  | .int k => P.underlying t = some (.int k)
  | .string => P.underlying t = some .string
  | .uptr => P.underlying t = some .unsafePointer
  | .pointer e => P.underlying t = some (.pointer e)
  | .slice e => P.underlying t = some (.slice e)
  | .array n e => P.underlying t = some (.array n e)
  | .struct fs => ∃ l, P.underlying t = some (.struct l) ∧ l.toList.map (fun f => (f.type, f.offset, f.name == "_")) = fs ∧ ∀ f ∈ l.toList, ∃ i, P.info? f.type = some i
  | .func => ∃ a b c, P.underlying t = some (.func a b c)
  | .iface => ∃ ms, P.underlying t = some (.interface ms)
  | .other => ∃ d, P.underlying t = some d ∧ (match d with | .struct _ | .array _ _ => False | _ => True)

structure TyOk (P : Program) (t : TypeId) (ti : TI) : Prop where
  info : ∃ i, P.info? t = some i ∧ i.size = ti.size ∧ i.bytes = ti.bytes ∧ ∃ z, i.zero = some z ∧ ofConsts z.cells.toList = some ti.zero ∧ (ti.agg = true ↔ ∃ cs, z = .agg cs) ∧ z.cells.size = i.size
  under : descOk P t ti.d
  eq : ti.eq = true → P.stoodInHeld t = false ∧ P.eqGuardType P.depth t = false

def TysOk (P : Program) (T : Tys) : Prop := ∀ t ti, T t = some ti → TyOk P t ti

theorem run_under {P : Program} {t : TypeId} {d : TypeDesc} (h : P.underlying t = some d) (w : World) : (underlying t).run P w = .ok d w := by
  simp [underlying, h]
theorem run_isAgg {P : Program} {t : TypeId} {ti : TI} (h : TyOk P t ti) (w : World) : (isAgg t).run P w = .ok ti.agg w := by
  have := h.under
  unfold isAgg TI.agg
  cases e : ti.d <;> rw [e] at this <;> simp only [descOk] at this
  case struct fs => obtain ⟨l, hl, _⟩ := this; simp [run_under hl]
  case func => obtain ⟨a, b, c, hl⟩ := this; simp [run_under hl]
  case iface => obtain ⟨ms, hl⟩ := this; simp [run_under hl]
  case other =>
    obtain ⟨d, hl, hd⟩ := this
    cases d <;> simp_all [run_under hl]
  all_goals simp [run_under this]
theorem run_size {P : Program} {t : TypeId} {ti : TI} (h : TyOk P t ti) (w : World) : (sizeOf t).run P w = .ok ti.size w := by
  obtain ⟨i, hi, hs, _⟩ := h.info
  simp [sizeOf, typeInfo, hi, hs]
theorem run_tinfo {P : Program} {t : TypeId} {i : TypeInfo} (hi : P.info? t = some i) (w : World) : (typeInfo t).run P w = .ok i w := by simp [typeInfo, hi]
theorem run_zero {P : Program} {t : TypeId} {ti : TI} (h : TyOk P t ti) : ∃ z, ofConsts z.cells.toList = some ti.zero ∧ (ti.agg = true ↔ ∃ cs, z = .agg cs) ∧ z.cells.size = ti.size ∧ ∀ w, (zeroValue t).run P w = .ok z w := by
  obtain ⟨i, hi, hs, _, z, hz, h1, h2, h3⟩ := h.info
  exact ⟨z, h1, h2, by rw [h3, hs], fun w => by simp [zeroValue, typeInfo, hi, hz]⟩

/-! #### states -/
def VS (κ : K) (σ : Nat → Option AV) (tmps : Array Value) : Prop := ∀ t a, σ t = some a → V κ a (tmps.getD t undef)
theorem VS.mono {κ κ' : K} (h : K.le κ κ') {σ : Nat → Option AV} {tmps : Array Value} (hs : VS κ σ tmps) : VS κ' σ tmps := fun t a e => (hs t a e).mono h

theorem srcOf_sound {κ : K} {σ : Nat → Option AV} {a : Act} (hs : VS κ σ a.tmps) {o : Operand} {s : Src} {v : AV} (hc : srcOf o = some s) (he : src σ s = some v) : V κ v (a.eval o) := by
  cases o with
  | tmp t => simp [srcOf] at hc; subst hc; exact hs t v he
  | const c =>
    obtain ⟨x, hx, hc⟩ := ob_eq_some.1 hc
    simp at hc; subst hc
    simp [src] at he; subst he
    exact V.const κ hx
  | global g => cases hc
  | func f =>
    simp [srcOf] at hc; subst hc
    simp [src] at he; subst he
    exact V.func_iff.2 ⟨⟨f, rfl, rfl⟩, VL.nil κ, VL.nil κ⟩
theorem srcsOf_sound {κ : K} {σ : Nat → Option AV} {a : Act} (hs : VS κ σ a.tmps) {l : List Operand} {ss : List Src} {vs : List AV} (hc : srcsOf l = some ss) (he : srcs σ ss = some vs) : VL κ vs (l.map a.eval) := by
  induction l generalizing ss vs with
  | nil => simp [srcsOf] at hc; subst hc; simp [srcs] at he; subst he; exact VL.nil κ
  | cons o l ih =>
    obtain ⟨x, hx, hc⟩ := ob_eq_some.1 hc
    obtain ⟨r, hr, hc⟩ := ob_eq_some.1 hc
    simp at hc; subst hc
    obtain ⟨v, hv, he⟩ := ob_eq_some.1 he
    obtain ⟨q, hq, he⟩ := ob_eq_some.1 he
    simp at he; subst he
    exact VL.cons (srcOf_sound hs hx hv) (ih hr hq)

/-- what an operation must come to -/
def Res (r : Result Next) (κ : K) (h : AH) (w : World) (aid : Option Nat) (v : AV) (h' : AH) : Prop :=
  ∃ x w' κ', (r = .ok (.value x) w' ∨ (r = .ok .skip w' ∧ x = undef)) ∧ V κ' v x ∧ R κ' h' w' ∧ Go κ h w κ' h' w' ∧ ∀ i, i < h.blocks.length → aid ≠ some i → κ'.φ i = κ.φ i

theorem Res.pure {κ : K} {h : AH} {w : World} {aid : Option Nat} (r : R κ h w) {v : AV} {x : Value} (hv : V κ v x) : Res (.ok (.value x) w) κ h w aid v h := ⟨x, w, κ, .inl rfl, hv, r, Go.refl κ h w, fun _ _ _ => rfl⟩
/-- an operation that hands back a value -/
theorem Res.of {P : Program} {κ : K} {h : AH} {w : World} {aid : Option Nat} {s : Sem Value} {v : AV} {h' : AH} {x : Value} {w' : World} {κ' : K} (e : s.run P w = .ok x w') (hv : V κ' v x) (hr : R κ' h' w') (hg : Go κ h w κ' h' w')
    (hφ : ∀ i, i < h.blocks.length → aid ≠ some i → κ'.φ i = κ.φ i) :
    Res ((do let y ← s; Pure.pure (Next.value y) : Sem Next).run P w) κ h w aid v h' := by
  refine ⟨x, w', κ', .inl ?_, hv, hr, hg, hφ⟩
  simp [e]
theorem Res.of0 {P : Program} {κ : K} {h : AH} {w : World} {aid : Option Nat} (r : R κ h w) {s : Sem Value} {v : AV} {x : Value} (e : s.run P w = .ok x w) (hv : V κ v x) :
    Res ((do let y ← s; Pure.pure (Next.value y) : Sem Next).run P w) κ h w aid v h := Res.of e hv r (Go.refl κ h w) (fun _ _ _ => rfl)

section
variable {P : Program} {κ : K} {h : AH} {w : World} {σ : Nat → Option AV} {a : Act} (r : R κ h w) (hs : VS κ σ a.tmps)

theorem ret1_eq {h h' : AH} {x : Option AV} {v : AV} : ret1 h x = some (v, h') ↔ x = some v ∧ h' = h := by
  unfold ret1
  cases x with
  | none => simp [ob]
  | some y =>
    simp only [ob, Option.some.injEq, Prod.mk.injEq]
    constructor <;> (rintro ⟨rfl, rfl⟩; exact ⟨rfl, rfl⟩)

end
end Go.Abs
/- Operations that only reckon. -/
namespace Go.Abs
set_option linter.unusedVariables false
set_option linter.unusedSimpArgs false
section
variable {P : Program} {κ : K} {h h' : AH} {w : World} {σ : Nat → Option AV} {a : Act} {v : AV}

theorem exec_move (o : Oper) (x : Operand) (ho : o.op = .move x ∨ o.op = .assign x) : (execOp a.eval o).run P w = .ok (.value (a.eval x)) w := by
  rcases ho with ho | ho <;> simp [execOp, ho]

theorem bin_int (op : BinOp) (t : TypeId) (k k' : IntKind) (x y : Int) (r : AV) (d : Option EqD) (he : aBin op d (.int k x) (.int k' y) = some r) :
    ∃ u, (binOp op t (.int k x) (.int k' y)).run P w = .ok u w ∧ V κ r u := by
  cases op <;> simp only [aBin] at he
  case shl =>
    unfold aShift at he
    split at he
    · cases he
    · rename_i hy
      simp at he; subst he
      exact ⟨_, by simp [binOp, Op.shift, hy], .int _ _⟩
  case shr =>
    unfold aShift at he
    split at he
    · cases he
    · rename_i hy
      simp at he; subst he
      exact ⟨_, by simp [binOp, Op.shift, hy], .int _ _⟩
  case add =>
    split at he
    case isFalse => cases he
    case isTrue hk =>
      subst hk
      simp only [aArith, Option.some.injEq] at he; subst he
      exact ⟨.int k (k.wrap (x + y)), by simp only [binOp, ne_eq, not_true_eq_false, if_false, Op.intArith]; rfl, .int _ _⟩
  case sub =>
    split at he
    case isFalse => cases he
    case isTrue hk =>
      subst hk
      simp only [aArith, Option.some.injEq] at he; subst he
      exact ⟨.int k (k.wrap (x - y)), by simp only [binOp, ne_eq, not_true_eq_false, if_false, Op.intArith]; rfl, .int _ _⟩
  case mul =>
    split at he
    case isFalse => cases he
    case isTrue hk =>
      subst hk
      simp only [aArith, Option.some.injEq] at he; subst he
      exact ⟨.int k (k.wrap (x * y)), by simp only [binOp, ne_eq, not_true_eq_false, if_false, Op.intArith]; rfl, .int _ _⟩
  case and =>
    split at he
    case isFalse => cases he
    case isTrue hk =>
      subst hk
      simp only [aArith, Option.some.injEq] at he; subst he
      exact ⟨.int k (k.wrap (BitVec.ofInt k.bits x &&& BitVec.ofInt k.bits y).toNat), by simp only [binOp, ne_eq, not_true_eq_false, if_false, Op.intBits]; rfl, .int _ _⟩
  case or =>
    split at he
    case isFalse => cases he
    case isTrue hk =>
      subst hk
      simp only [aArith, Option.some.injEq] at he; subst he
      exact ⟨.int k (k.wrap (BitVec.ofInt k.bits x ||| BitVec.ofInt k.bits y).toNat), by simp only [binOp, ne_eq, not_true_eq_false, if_false, Op.intBits]; rfl, .int _ _⟩
  case xor =>
    split at he
    case isFalse => cases he
    case isTrue hk =>
      subst hk
      simp only [aArith, Option.some.injEq] at he; subst he
      exact ⟨.int k (k.wrap (BitVec.ofInt k.bits x ^^^ BitVec.ofInt k.bits y).toNat), by simp only [binOp, ne_eq, not_true_eq_false, if_false, Op.intBits]; rfl, .int _ _⟩
  case andNot =>
    split at he
    case isFalse => cases he
    case isTrue hk =>
      subst hk
      simp only [aArith, Option.some.injEq] at he; subst he
      exact ⟨.int k (k.wrap (BitVec.ofInt k.bits x &&& ~~~(BitVec.ofInt k.bits y)).toNat), by simp only [binOp, ne_eq, not_true_eq_false, if_false, Op.intBits]; rfl, .int _ _⟩
  case eql =>
    split at he
    case isFalse => cases he
    case isTrue hk =>
      subst hk
      simp only [aArith, Option.some.injEq] at he; subst he
      exact ⟨.bool (x == y), by simp only [binOp, ne_eq, not_true_eq_false, if_false, Op.intCmp]; rfl, .bool _⟩
  case neq =>
    split at he
    case isFalse => cases he
    case isTrue hk =>
      subst hk
      simp only [aArith, Option.some.injEq] at he; subst he
      exact ⟨.bool (x != y), by simp only [binOp, ne_eq, not_true_eq_false, if_false, Op.intCmp]; rfl, .bool _⟩
  case lss =>
    split at he
    case isFalse => cases he
    case isTrue hk =>
      subst hk
      simp only [aArith, Option.some.injEq] at he; subst he
      exact ⟨.bool (decide (x < y)), by simp only [binOp, ne_eq, not_true_eq_false, if_false, Op.intCmp]; rfl, .bool _⟩
  case leq =>
    split at he
    case isFalse => cases he
    case isTrue hk =>
      subst hk
      simp only [aArith, Option.some.injEq] at he; subst he
      exact ⟨.bool (decide (x ≤ y)), by simp only [binOp, ne_eq, not_true_eq_false, if_false, Op.intCmp]; rfl, .bool _⟩
  case gtr =>
    split at he
    case isFalse => cases he
    case isTrue hk =>
      subst hk
      simp only [aArith, Option.some.injEq] at he; subst he
      exact ⟨.bool (decide (x > y)), by simp only [binOp, ne_eq, not_true_eq_false, if_false, Op.intCmp]; rfl, .bool _⟩
  case geq =>
    split at he
    case isFalse => cases he
    case isTrue hk =>
      subst hk
      simp only [aArith, Option.some.injEq] at he; subst he
      exact ⟨.bool (decide (x ≥ y)), by simp only [binOp, ne_eq, not_true_eq_false, if_false, Op.intCmp]; rfl, .bool _⟩
  case quo =>
    split at he
    case isFalse => cases he
    case isTrue hk =>
      subst hk
      simp only [aArith] at he
      split at he
      · cases he
      · rename_i hy
        simp only [Option.some.injEq] at he; subst he
        exact ⟨.int k (k.wrap (x.tdiv y)), by simp only [binOp, ne_eq, not_true_eq_false, if_false, Op.intDiv, if_neg hy]; rfl, .int _ _⟩
  case rem =>
    split at he
    case isFalse => cases he
    case isTrue hk =>
      subst hk
      simp only [aArith] at he
      split at he
      · cases he
      · rename_i hy
        simp only [Option.some.injEq] at he; subst he
        exact ⟨.int k (x.tmod y), by simp only [binOp, ne_eq, not_true_eq_false, if_false, Op.intDiv, if_neg hy]; rfl, .int _ _⟩

theorem bin_str (op : BinOp) (t : TypeId) (x y : ByteArray) (r : AV) (d : Option EqD) (he : aBin op d (.str x) (.str y) = some r) :
    ∃ u, (binOp op t (.string x) (.string y)).run P w = .ok u w ∧ V κ r u := by
  cases op <;> simp only [aBin, aStrOp] at he
  case add =>
    split at he
    · cases he
    · rename_i hn
      simp only [Option.some.injEq] at he; subst he
      exact ⟨.string (x ++ y), by simp only [binOp, Op.stringOp]; rw [if_neg hn]; rfl, .str _⟩
  case eql =>
    simp only [Option.some.injEq] at he; subst he
    exact ⟨.bool (x.toList == y.toList), rfl, .bool _⟩
  case neq =>
    simp only [Option.some.injEq] at he; subst he
    exact ⟨.bool (!(x.toList == y.toList)), rfl, .bool _⟩
  case lss =>
    simp only [Option.some.injEq] at he; subst he
    exact ⟨.bool (Op.bytesLess x.toList y.toList), rfl, .bool _⟩
  case leq =>
    simp only [Option.some.injEq] at he; subst he
    exact ⟨.bool (Op.bytesLess x.toList y.toList || x.toList == y.toList), rfl, .bool _⟩
  case gtr =>
    simp only [Option.some.injEq] at he; subst he
    exact ⟨.bool (!(Op.bytesLess x.toList y.toList || x.toList == y.toList)), rfl, .bool _⟩
  case geq =>
    simp only [Option.some.injEq] at he; subst he
    exact ⟨.bool (!(Op.bytesLess x.toList y.toList)), rfl, .bool _⟩
  all_goals cases he

/-- a part of a struct or array -/
theorem shape_sound {t : TypeId} {ti : TI} (ht : TyOk P t ti) {cs : List AV} {vs : Array Value} {off : Nat} {u : AV} (hv : VL κ cs vs.toList)
    (he : shapeOf ti.size ti.agg ((cs.drop off).take ti.size) = some u) (hs : ∀ c ∈ cs, c.scalar = true → True) :
    ∃ v', (part t vs off).run P w = .ok v' w ∧ V κ u v' := by
  unfold shapeOf at he
  split at he
  case isFalse => cases he
  case isTrue hl =>
    have hvl := (hv.drop off).take ti.size
    unfold part
    cases hagg : ti.agg with
    | true =>
      rw [hagg] at he
      simp only [if_true, Option.some.injEq] at he
      subst he
      refine ⟨.agg (vs.extract off (off + ti.size)), ?_, ?_⟩
      · simp [run_isAgg ht, run_size ht, hagg]
      · rw [V.agg_iff]
        have : (vs.extract off (off + ti.size)).toList = (vs.toList.drop off).take ti.size := by
          simp [Array.toList_extract, List.extract_eq_take_drop]
        rw [this]; exact hvl
    | false =>
      rw [hagg] at he
      simp only [Bool.false_eq_true, if_false] at he
      split at he
      · rename_i c hc
        simp only [Option.some.injEq] at he; subst he
        rw [hc] at hvl
        obtain ⟨x, r, hx, hV, hr⟩ := hvl.inv_cons
        have h0 : vs[off]? = some x := by
          have : ((vs.toList.drop off).take ti.size)[0]? = some x := by rw [hx]; rfl
          rw [List.getElem?_take] at this
          split at this
          · simpa using this
          · cases this
        exact ⟨x, by simp [run_isAgg ht, hagg, h0], hV⟩
      · cases he

theorem aEq_sound {T : Tys} (hT : TysOk P T) : ∀ (n : Nat) (t : TypeId) (d : EqD), eqOf T n t = some d → ∀ (m : Nat), n ≤ m → ∀ (x y : AV) (u v : Value) (b : Bool),
    aEq d x y = some b → V κ x u → V κ y v → (Op.equalIn m t u v).run P w = .ok b w := by
  intro n
  induction n with
  | zero => intro t d h; simp [eqOf] at h
  | succ n ih =>
    intro t d hd m hm x y u v b he hx hy
    obtain ⟨m, rfl⟩ : ∃ k, m = k + 1 := ⟨m - 1, by omega⟩
    unfold eqOf at hd
    obtain ⟨ti, hti, hd⟩ := ob_eq_some.1 hd
    have tok := hT t ti hti
    have hu := tok.under
    cases e : ti.d <;> rw [e] at hd hu <;> simp only [descOk] at hu <;> dsimp only at hd
    case bool =>
      simp only [Option.some.injEq] at hd; subst hd
      cases x <;> cases y <;> simp only [aEq] at he <;> first | (cases he; done) | skip
      simp only [Option.some.injEq] at he; subst he
      cases hx; cases hy
      simp [Op.equalIn, run_under hu]
    case int k =>
      simp only [Option.some.injEq] at hd; subst hd
      cases x <;> cases y <;> simp only [aEq] at he <;> first | (cases he; done) | skip
      split at he
      · rename_i hk
        simp only [Option.some.injEq] at he; subst he; subst hk
        cases hx; cases hy
        simp [Op.equalIn, run_under hu]
      · cases he
    case string =>
      simp only [Option.some.injEq] at hd; subst hd
      cases x <;> cases y <;> simp only [aEq] at he <;> first | (cases he; done) | skip
      simp only [Option.some.injEq] at he; subst he
      cases hx; cases hy
      simp [Op.equalIn, run_under hu]
    case pointer e' =>
      simp only [Option.some.injEq] at hd; subst hd
      cases x <;> cases y <;> simp only [aEq] at he <;> first | (cases he; done) | skip
      all_goals
        simp only [Option.some.injEq] at he; subst he
        cases hx; cases hy
        simp [Op.equalIn, run_under hu]
    case slice e' =>
      simp only [Option.some.injEq] at hd; subst hd
      have key : ∀ (x y : AV), aEq .slice x y = some b → V κ x u → V κ y v → (Op.equalIn (m + 1) t u v).run P w = .ok b w := by
        intro x y he hx hy
        unfold aEq at he
        split at he <;> first | (cases he; done) | skip
        all_goals first | (rename_i heq; cases heq; done) | skip
        · simp only [Option.some.injEq] at he; subst he
          rcases V.slice_iff.1 hx with ⟨_, _, rfl⟩ | ⟨h0, _⟩
          · rcases V.slice_iff.1 hy with ⟨rfl, _, rfl⟩ | ⟨rfl, b', o', c', rfl, _⟩ <;> simp [Op.equalIn, run_under hu]
          · cases h0
        · simp only [Option.some.injEq] at he; subst he
          rcases V.slice_iff.1 hy with ⟨_, _, rfl⟩ | ⟨h0, _⟩
          · rcases V.slice_iff.1 hx with ⟨rfl, _, rfl⟩ | ⟨rfl, b', o', c', rfl, _⟩ <;> simp [Op.equalIn, run_under hu]
          · cases h0
        · simp only [Option.some.injEq] at he; subst he
          rcases V.slice_iff.1 hx with ⟨_, _, rfl⟩ | ⟨h0, _⟩
          · cases hy; simp [Op.equalIn, run_under hu]
          · cases h0
        · simp only [Option.some.injEq] at he; subst he
          rcases V.slice_iff.1 hy with ⟨_, _, rfl⟩ | ⟨h0, _⟩
          · cases hx; simp [Op.equalIn, run_under hu]
          · cases h0
      exact key x y he hx hy
    case func =>
      simp only [Option.some.injEq] at hd; subst hd
      obtain ⟨q1, q2, q3, hu⟩ := hu
      cases x <;> cases y <;> simp only [aEq] at he <;> first | (cases he; done) | skip
      all_goals
        simp only [Option.some.injEq] at he; subst he
        cases hx; cases hy
        simp [Op.equalIn, run_under hu]
    case struct fs =>
      split at hd
      case isFalse => cases hd
      case isTrue heq =>
        obtain ⟨l, hl, hd⟩ := ob_eq_some.1 hd
        simp only [Option.some.injEq] at hd; subst hd
        cases x <;> cases y <;> simp only [aEq] at he <;> first | (cases he; done) | skip
        rename_i xs ys
        obtain ⟨fl, hfl, hmap, _⟩ := hu
        cases hx with
        | agg hx1 hx2 =>
        cases hy with
        | agg hy1 hy2 =>
        rename_i us vs
        have hX : VL κ xs us.toList := V.agg_iff.1 (.agg hx1 hx2)
        have hY : VL κ ys vs.toList := V.agg_iff.1 (.agg hy1 hy2)
        have hfo : P.fieldsOf t = fl := by unfold Program.fieldsOf; rw [hfl]
        rw [run_equalIn_struct w m t us vs (by rw [hfo]; exact hfl) (tok.eq heq).1, hfo]
        clear hx1 hx2 hy1 hy2 hfo hfl
        have goS : ∀ (F : List Field) (fs : List (TypeId × Nat × Bool)) (l : List (Nat × Nat × Bool × EqD)) (b : Bool), F.map (fun f => (f.type, f.offset, f.name == "_")) = fs →
            eqFs T (eqOf T n) fs = some l → aEq.go l xs ys = some b → (Op.eqFields m us vs F).run P w = .ok b w := by
          intro F
          induction F with
          | nil =>
            intro fs l b hmap hl he
            simp at hmap; subst hmap
            simp [eqFs] at hl; subst hl
            simp [aEq.go] at he; subst he
            simp [Op.eqFields]
          | cons f F ihF =>
            intro fs l b hmap hl he
            simp only [List.map_cons] at hmap
            subst hmap
            unfold eqFs at hl
            cases hb : (f.name == "_") with
            | true =>
              rw [hb] at hl
              simp only [if_true] at hl
              have hname : f.name = "_" := by simpa using hb
              simp only [Op.eqFields, hname, ne_eq, not_true_eq_false, if_false]
              exact ihF _ l b rfl hl he
            | false =>
              rw [hb] at hl
              simp only [Bool.false_eq_true, if_false] at hl
              have hname : f.name ≠ "_" := by simpa using hb
              obtain ⟨fi, hfi, hl⟩ := ob_eq_some.1 hl
              obtain ⟨de, hde, hl⟩ := ob_eq_some.1 hl
              obtain ⟨l', hl', hl⟩ := ob_eq_some.1 hl
              simp only [Option.some.injEq] at hl; subst hl
              unfold aEq.go at he
              obtain ⟨p, hp, he⟩ := ob_eq_some.1 he
              obtain ⟨q, hq, he⟩ := ob_eq_some.1 he
              obtain ⟨c, hc, he⟩ := ob_eq_some.1 he
              obtain ⟨c', hc', he⟩ := ob_eq_some.1 he
              simp only [Option.some.injEq] at he; subst he
              obtain ⟨pv, hpr, hpV⟩ := shape_sound (w := w) (hT _ _ hfi) hX hp (fun _ _ _ => trivial)
              obtain ⟨qv, hqr, hqV⟩ := shape_sound (w := w) (hT _ _ hfi) hY hq (fun _ _ _ => trivial)
              have hrec := ih f.type de hde m (by omega) p q pv qv c hc hpV hqV
              have htl := ihF _ l' c' rfl hl' hc'
              simp only [Op.eqFields, hname, ne_eq, not_false_eq_true, if_true, Sem.run_bind, hpr, hqr, hrec, Result.andThen_ok]
              cases c with
              | true => simpa using htl
              | false => simp
        exact goS fl.toList fs l b hmap hl he
    all_goals cases hd
end
end Go.Abs
/- Operations that only reckon, one by one. -/
namespace Go.Abs
set_option linter.unusedVariables false
set_option linter.unusedSimpArgs false
section
variable {P : Program} {T : Tys} (hT : TysOk P T) {κ : K} {h h' : AH} {w : World} {σ : Nat → Option AV} {a : Act} {v : AV} (r : R κ h w) (hs : VS κ σ a.tmps)

def plainEq : Value → Bool
  | .int .. | .float .. | .complex .. | .string .. => false
  | _ => true
theorem binOp_eql (t : TypeId) (u v : Value) (hu : plainEq u = true) : binOp .eql t u v = (do pure (.bool (← Op.equal t u v))) := by
  cases u <;> first | (simp [plainEq] at hu; done) | (cases v <;> rfl)
theorem binOp_neq (t : TypeId) (u v : Value) (hu : plainEq u = true) : binOp .neq t u v = (do pure (.bool (!(← Op.equal t u v)))) := by
  cases u <;> first | (simp [plainEq] at hu; done) | (cases v <;> rfl)

theorem eqGuard_ok (op : BinOp) (t : TypeId) (x y : Operand) (u v : Value) (hu : u ≠ .nilIface) (hg : ∀ cs, u = .agg cs → P.eqGuardType P.depth t = false) : (eqGuard op t x y u v).run P w = .ok () w := by
  cases u <;> first
    | exact absurd rfl hu
    | (rename_i cs; have := hg cs rfl; cases v <;> cases op <;> simp [eqGuard, this, run_program])
    | (cases v <;> cases op <;> simp [eqGuard])

include hT in
theorem bin_eq (op : BinOp) (hop : op = .eql ∨ op = .neq) (t : TypeId) (n : Nat) (hn : n ≤ 10000) (d : Option EqD) (hd : d = eqOf T n t) (x y : AV) (u u' : Value) (hx : V κ x u) (hy : V κ y u') (b : AV)
    (ho : op = .eql → ob d (fun d => ob (aEq d x y) fun b => some (.bool b)) = some b) (ho' : op = .neq → ob d (fun d => ob (aEq d x y) fun b => some (.bool !b)) = some b)
    (hp : plainEq u = true) (X Y : Operand) : ∃ z, (do eqGuard op t X Y u u'; binOp op t u u' : Sem Value).run P w = .ok z w ∧ V κ b z := by
  have key : ∀ c, d = some c → ∀ b', aEq c x y = some b' → (eqGuard op t X Y u u').run P w = .ok () w ∧ (Op.equal t u u').run P w = .ok b' w := by
    intro c hc b' he
    have hd' : eqOf T n t = some c := by rw [← hd]; exact hc
    refine ⟨eqGuard_ok op t X Y u u' ?_ ?_, aEq_sound hT n t c hd' 10000 hn x y u u' b' he hx hy⟩
    · intro e; subst e; cases hx; cases c <;> cases y <;> simp [aEq] at he
    · intro cs e
      subst e
      cases hx
      cases n with
      | zero => simp [eqOf] at hd'
      | succ n =>
        unfold eqOf at hd'
        obtain ⟨ti, hti, hd'⟩ := ob_eq_some.1 hd'
        have tok := hT t ti hti
        cases e : ti.d <;> rw [e] at hd' <;> dsimp only at hd' <;> first
          | (cases hd'; done)
          | (cases hd'; cases y <;> simp [aEq] at he; done)
          | (split at hd'
             · rename_i heq; exact (tok.eq heq).2
             · cases hd')
  rcases hop with rfl | rfl
  · obtain ⟨c, hc, he⟩ := ob_eq_some.1 (ho rfl)
    obtain ⟨b', hb', he⟩ := ob_eq_some.1 he
    simp only [Option.some.injEq] at he; subst he
    obtain ⟨k1, k2⟩ := key c hc b' hb'
    exact ⟨.bool b', by rw [Sem.run_bind, k1]; simp [binOp_eql t u u' hp, k2], .bool _⟩
  · obtain ⟨c, hc, he⟩ := ob_eq_some.1 (ho' rfl)
    obtain ⟨b', hb', he⟩ := ob_eq_some.1 he
    simp only [Option.some.injEq] at he; subst he
    obtain ⟨k1, k2⟩ := key c hc b' hb'
    exact ⟨.bool !b', by rw [Sem.run_bind, k1]; simp [binOp_neq t u u' hp, k2], .bool _⟩

include hT in
theorem bin_any (op : BinOp) (t : TypeId) (d : Option EqD) (hd : (op = .eql ∨ op = .neq) → d = eqOf T 20 t) (x y : AV) (u u' : Value) (hx : V κ x u) (hy : V κ y u') (b : AV) (he : aBin op d x y = some b) (X Y : Operand) :
    ∃ z, (do eqGuard op t X Y u u'; binOp op t u u' : Sem Value).run P w = .ok z w ∧ V κ b z := by
  by_cases h1 : ∃ k n k' n', x = .int k n ∧ y = .int k' n'
  · obtain ⟨k, n, k', n', rfl, rfl⟩ := h1
    cases hx; cases hy
    obtain ⟨z, hz, hV⟩ := bin_int (P := P) (κ := κ) (w := w) op t k k' n n' b d he
    refine ⟨z, ?_, hV⟩
    rw [Sem.run_bind, eqGuard_ok op t X Y _ _ (by simp) (by simp)]
    exact hz
  · by_cases h2 : ∃ s s', x = .str s ∧ y = .str s'
    · obtain ⟨s, s', rfl, rfl⟩ := h2
      cases hx; cases hy
      obtain ⟨z, hz, hV⟩ := bin_str (P := P) (κ := κ) (w := w) op t s s' b d he
      refine ⟨z, ?_, hV⟩
      rw [Sem.run_bind, eqGuard_ok op t X Y _ _ (by simp) (by simp)]
      exact hz
    · have hq : ((op = .eql ∧ ob d (fun d => ob (aEq d x y) fun b => some (AV.bool b)) = some b) ∨ (op = .neq ∧ ob d (fun d => ob (aEq d x y) fun b => some (AV.bool !b)) = some b)) := by
        unfold aBin at he
        split at he <;> first
          | (exact absurd ⟨_, _, _, _, rfl, rfl⟩ h1)
          | (exact absurd ⟨_, _, rfl, rfl⟩ h2)
          | exact .inl ⟨rfl, he⟩
          | exact .inr ⟨rfl, he⟩
          | cases he
      have hp : plainEq u = true := by
        have : ∀ c b', aEq c x y = some b' → plainEq u = true := by
          intro c b' hab
          cases hx <;> first
            | rfl
            | (cases y <;> first | exact absurd ⟨_, _, _, _, rfl, rfl⟩ h1 | exact absurd ⟨_, _, rfl, rfl⟩ h2 | (cases c <;> simp [aEq] at hab))
        rcases hq with ⟨_, hq⟩ | ⟨_, hq⟩
        · obtain ⟨c, _, hq⟩ := ob_eq_some.1 hq
          obtain ⟨b', hb', _⟩ := ob_eq_some.1 hq
          exact this c b' hb'
        · obtain ⟨c, _, hq⟩ := ob_eq_some.1 hq
          obtain ⟨b', hb', _⟩ := ob_eq_some.1 hq
          exact this c b' hb'
      rcases hq with ⟨rfl, hq⟩ | ⟨rfl, hq⟩
      · exact bin_eq hT .eql (.inl rfl) t 20 (by omega) d (hd (.inl rfl)) x y u u' hx hy b (fun _ => hq) (by simp) hp X Y
      · exact bin_eq hT .neq (.inr rfl) t 20 (by omega) d (hd (.inr rfl)) x y u u' hx hy b (by simp) (fun _ => hq) hp X Y

theorem un_any (op : UnOp) (x b : AV) (u : Value) (hx : V κ x u) (he : aUn op x = some b) : ∃ z, (Op.unary op u).run P w = .ok z w ∧ V κ b z := by
  unfold aUn at he
  split at he
  · simp only [Option.some.injEq] at he; subst he; cases hx
    exact ⟨_, rfl, .int _ _⟩
  · simp only [Option.some.injEq] at he; subst he; cases hx
    exact ⟨_, rfl, .int _ _⟩
  · simp only [Option.some.injEq] at he; subst he; cases hx
    exact ⟨_, rfl, .bool _⟩
  · cases he

theorem minmax_list (mx : Bool) : ∀ (xs : List AV) (us : List Value), VL κ xs us → ∀ (acc b : AV) (u : Value), V κ acc u → minMaxL mx acc xs = some b →
    ∃ z, (us.foldlM (if mx then Builtin.max2 else Builtin.min2) u).run P w = .ok z w ∧ V κ b z := by
  intro xs
  induction xs with
  | nil =>
    intro us hl acc b u ha he
    have := hl.inv_nil; subst this
    simp only [minMaxL, Option.some.injEq] at he; subst he
    exact ⟨u, by simp, ha⟩
  | cons x xs ih =>
    intro us hl acc b u ha he
    obtain ⟨y, r, rfl, h1, h2⟩ := hl.inv_cons
    obtain ⟨c, hc, he⟩ := ob_eq_some.1 he
    unfold minMax2 at hc
    split at hc
    · simp only [Option.some.injEq] at hc; subst hc
      cases ha; cases h1
      obtain ⟨z, hz, hV⟩ := ih r h2 _ b _ (.int _ _) he
      refine ⟨z, ?_, hV⟩
      rw [List.foldlM_cons, Sem.run_bind]
      cases mx <;> (simp only [Bool.false_eq_true, if_false, if_true, Builtin.max2, Builtin.min2, Sem.run_pure, Result.andThen_ok] at hz ⊢; exact hz)
    · cases hc

end
end Go.Abs
/- Building, slicing, indexing. -/
namespace Go.Abs
set_option linter.unusedVariables false
set_option linter.unusedSimpArgs false

theorem fold_set (off : Nat) : ∀ (l : List Value) (k : Nat) (cells : Array Value), off + k + l.length ≤ cells.size →
    ((l.zipIdx k).foldl (fun (cs : Array Value) (p : Value × Nat) => cs.setIfInBounds (off + p.2) p.1) cells).toList = cells.toList.take (off + k) ++ (l ++ cells.toList.drop (off + k + l.length)) := by
  intro l
  induction l with
  | nil => intro k cells h; simp
  | cons v l ih =>
    intro k cells h
    simp only [List.length_cons] at h
    simp only [List.zipIdx_cons, List.foldl_cons]
    rw [ih (k + 1) (cells.setIfInBounds (off + k) v) (by simp; omega)]
    simp only [Array.toList_setIfInBounds, List.length_cons]
    obtain ⟨A, x, B, hAB, hA⟩ : ∃ A x B, cells.toList = A ++ x :: B ∧ A.length = off + k := by
      refine ⟨cells.toList.take (off + k), cells.toList[off + k]'(by simp; omega), cells.toList.drop (off + k + 1), ?_, by simp; omega⟩
      rw [← List.drop_eq_getElem_cons, List.take_append_drop]
    rw [hAB, ← hA]
    have e1 : off + (k + 1) = A.length + 1 := by omega
    have e2 : A.length + (l.length + 1) = A.length + 1 + l.length := by omega
    have e3 : (A ++ x :: B).set A.length v = A ++ v :: B := by simp
    rw [e1, e2, e3]
    have t1 : (A ++ v :: B).take (A.length + 1) = A ++ [v] := by
      rw [List.take_append, List.take_of_length_le (by omega)]; simp
    have t2 : ∀ y : Value, (A ++ y :: B).drop (A.length + 1 + l.length) = B.drop l.length := by
      intro y
      rw [List.drop_append, List.drop_of_length_le (by omega)]
      have : A.length + 1 + l.length - A.length = l.length + 1 := by omega
      rw [this]; simp
    rw [t1, t2, t2]
    simp

section
variable {P : Program} {T : Tys} (hT : TysOk P T) {κ : K} {h h' : AH} {w : World} {σ : Nat → Option AV} {a : Act} {v : AV}

theorem overwrite_sound {cs vs : List AV} {xs ys : List Value} (hc : VL κ cs xs) (hv : VL κ vs ys) (off : Nat) : VL κ (overwrite cs off vs) (xs.take off ++ (ys ++ xs.drop (off + ys.length))) := by
  unfold overwrite
  rw [hv.1]
  exact (hc.take off).append (hv.append (hc.drop _))

theorem fill_sound (place : Nat → Option (Nat × Nat)) (hs : VS κ σ a.tmps) : ∀ (ps : List (Nat × Operand)) (l : List (Nat × Nat × Src)) (cells : List AV) (vcells : Array Value) (cs : List AV),
    (List.length ps = l.length) → (∀ (i : Nat) (p : Nat × Operand) (q : Nat × Nat × Src), ps[i]? = some p → l[i]? = some q → place p.1 = some (q.1, q.2.1) ∧ srcOf p.2 = some q.2.2) →
    VL κ cells vcells.toList → fillA σ cells l = some cs → ∃ vs, Instr.fill place vcells (ps.map fun p => (p.1, a.eval p.2)) = some vs ∧ VL κ cs vs.toList := by
  intro ps
  induction ps with
  | nil =>
    intro l cells vcells cs hl _ hv he
    cases l with
    | cons _ _ => simp at hl
    | nil =>
      simp only [fillA, Option.some.injEq] at he; subst he
      exact ⟨vcells, rfl, hv⟩
  | cons p ps ih =>
    intro l cells vcells cs hl hp hv he
    cases l with
    | nil => simp at hl
    | cons q l =>
      obtain ⟨off, sz, x⟩ := q
      obtain ⟨h1, h2⟩ := hp 0 p (off, sz, x) rfl rfl
      obtain ⟨y, hy, he⟩ := ob_eq_some.1 he
      split at he
      case isFalse => cases he
      case isTrue hcond =>
        have hV := srcOf_sound hs h2 hy
        have hcells := hV.cells
        have hlen : (a.eval p.2).cells.size = sz := by rw [← hcond.1, hcells.1]; simp
        have hcl : vcells.size = cells.length := by rw [hv.1]; simp
        simp only [List.map_cons, Instr.fill, h1]
        have hno : ((a.eval p.2).cells.size ≠ sz || decide (off + (a.eval p.2).cells.size > vcells.size)) = false := by
          simp only [ne_eq, Bool.or_eq_false_iff, decide_eq_false_iff_not, Decidable.not_not]
          refine ⟨hlen, ?_⟩
          rw [hlen, hcl]
          have := hcond.2
          rw [hcond.1] at this
          omega
        rw [hno]
        simp only [Bool.false_eq_true, if_false]
        refine ih l _ _ cs (by simpa using hl) (fun i p q hi hj => hp (i + 1) p q (by simpa using hi) (by simpa using hj)) ?_ he
        have hfold := fold_set off (a.eval p.2).cells.toList 0 vcells (by simp only [Nat.add_zero, Array.length_toList]; rw [hlen, hcl]; have := hcond.2; rw [hcond.1] at this; omega)
        rw [← Array.foldl_toList, Array.toList_zipIdx]
        simp only [Nat.add_zero] at hfold
        rw [hfold]
        exact overwrite_sound hv hcells off

/-- the places of a struct's fields -/
theorem places_eq (l : List Field) (hl : ∀ f ∈ l, ∃ i, P.info? f.type = some i) : l.mapM (fun f => (P.info? f.type).map fun i => (f.offset, i.size)) = some (l.map fun f => (f.offset, P.cellsOf f.type)) := by
  induction l with
  | nil => simp
  | cons f l ih =>
    obtain ⟨i, hi⟩ := hl f (by simp)
    have := ih (fun g hg => hl g (by simp [hg]))
    simp [List.mapM_cons, hi, this, Program.cellsOf]

theorem cellsOf_ok {t : TypeId} {ti : TI} (h : TyOk P t ti) : P.cellsOf t = ti.size := by
  obtain ⟨i, hi, hs, _⟩ := h.info
  simp [Program.cellsOf, hi, hs]

theorem partsOfS_sound {fs : List (TypeId × Nat × Bool)} {fl : List Field} (hmap : fl.map (fun f => (f.type, f.offset, f.name == "_")) = fs) : ∀ (ps : List (Nat × Operand)) (l : List (Nat × Nat × Src)), partsOfS T fs ps = some l →
    ps.length = l.length ∧ ∀ (i : Nat) (p : Nat × Operand) (q : Nat × Nat × Src), ps[i]? = some p → l[i]? = some q → ((∃ f fi, fl[p.1]? = some f ∧ T f.type = some fi ∧ f.offset = q.1 ∧ fi.size = q.2.1) ∧ srcOf p.2 = some q.2.2) := by
  intro ps
  induction ps with
  | nil => intro l h; simp [partsOfS] at h; subst h; exact ⟨rfl, fun i p q hp => by simp at hp⟩
  | cons p ps ih =>
    intro l h
    obtain ⟨n, x⟩ := p
    obtain ⟨f, hf, h⟩ := ob_eq_some.1 h
    obtain ⟨fi, hfi, h⟩ := ob_eq_some.1 h
    obtain ⟨s, hs, h⟩ := ob_eq_some.1 h
    obtain ⟨r, hr, h⟩ := ob_eq_some.1 h
    simp only [Option.some.injEq] at h; subst h
    obtain ⟨h1, h2⟩ := ih r hr
    refine ⟨by simp [h1], fun i p q hp hq => ?_⟩
    cases i with
    | succ i => exact h2 i p q (by simpa using hp) (by simpa using hq)
    | zero =>
      simp at hp hq; subst hp; subst hq
      obtain ⟨g, hg, hf⟩ := ob_eq_some.1 hf
      simp only [Option.some.injEq] at hf; subst hf
      rw [← hmap, List.getElem?_map, Option.map_eq_some_iff] at hg
      obtain ⟨fd, hfd, rfl⟩ := hg
      exact ⟨⟨fd, fi, hfd, hfi, rfl, rfl⟩, hs⟩
theorem partsOfA_sound {sz : Nat} : ∀ (ps : List (Nat × Operand)) (l : List (Nat × Nat × Src)), partsOfA sz ps = some l →
    ps.length = l.length ∧ ∀ (i : Nat) (p : Nat × Operand) (q : Nat × Nat × Src), ps[i]? = some p → l[i]? = some q → (some (p.1 * sz, sz) = some (q.1, q.2.1) ∧ srcOf p.2 = some q.2.2) := by
  intro ps
  induction ps with
  | nil => intro l h; simp [partsOfA] at h; subst h; exact ⟨rfl, fun i p q hp => by simp at hp⟩
  | cons p ps ih =>
    intro l h
    obtain ⟨n, x⟩ := p
    obtain ⟨s, hs, h⟩ := ob_eq_some.1 h
    obtain ⟨r, hr, h⟩ := ob_eq_some.1 h
    simp only [Option.some.injEq] at h; subst h
    obtain ⟨h1, h2⟩ := ih r hr
    refine ⟨by simp [h1], fun i p q hp hq => ?_⟩
    cases i with
    | succ i => exact h2 i p q (by simpa using hp) (by simpa using hq)
    | zero => simp at hp hq; subst hp; subst hq; exact ⟨rfl, hs⟩

include hT in
theorem build_sound (hs : VS κ σ a.tmps) (t : TypeId) (ps : Array (Nat × Operand)) (z : List AV) (l : List (Nat × Nat × Src)) (cs : List AV) (hc : opOf T (.build t ps) = some (.build z l)) (he : fillA σ z l = some cs) :
    ∃ vs, (Instr.build t (ps.map fun (i, x) => (i, a.eval x))).run P w = .ok (.agg vs) w ∧ VL κ cs vs.toList := by
  obtain ⟨ti, hti, hc⟩ := ob_eq_some.1 (show ob (T t) _ = _ from hc)
  have tok := hT t ti hti
  obtain ⟨zv, hz, hagg, hzs, hzr⟩ := run_zero tok
  have hu := tok.under
  have hlist : (ps.map fun (i, x) => (i, a.eval x)).toList = ps.toList.map fun p => (p.1, a.eval p.2) := by simp
  cases e : ti.d <;> rw [e] at hc hu <;> simp only [descOk] at hu <;> dsimp only at hc <;> first | (cases hc; done) | skip
  case struct fs =>
    obtain ⟨fl, hfl, hmap, hall⟩ := hu
    obtain ⟨q, hq, hc⟩ := ob_eq_some.1 hc
    simp only [Option.some.injEq, IOp.build.injEq] at hc
    obtain ⟨rfl, rfl⟩ := hc
    obtain ⟨hl, hp⟩ := partsOfS_sound hmap ps.toList q hq
    obtain ⟨vs, hvs, hV⟩ := fill_sound (a := a) ((((fl.toList.map fun f => (f.offset, P.cellsOf f.type)).toArray)[·]?)) hs ps.toList q ti.zero zv.cells cs hl (fun i p q hi hj => by
      obtain ⟨⟨f, fi, h1, h2, h3, h4⟩, h5⟩ := hp i p q hi hj
      refine ⟨?_, h5⟩
      simp only [List.getElem?_toArray, List.getElem?_map, Array.getElem?_toList] at h1 ⊢
      rw [show fl[p.1]? = some f from by simpa using h1]
      simp [h3, cellsOf_ok (hT _ _ h2), h4]) (VL.consts κ hz) he
    refine ⟨vs, ?_, hV⟩
    obtain ⟨it, hit, _, _, z', hz', h1, h2, h3⟩ := tok.info
    have hzz : z' = zv := by
      have := hzr w
      simp [zeroValue, typeInfo, hit, hz'] at this
      exact this
    subst hzz
    refine run_build w t _ vs ?_
    unfold Program.built
    rw [hit, hfl]
    simp only [hz', places_eq fl.toList hall]
    rw [hlist]
    exact hvs
  case array n el =>
    obtain ⟨ei, hei, hc⟩ := ob_eq_some.1 hc
    obtain ⟨q, hq, hc⟩ := ob_eq_some.1 hc
    simp only [Option.some.injEq, IOp.build.injEq] at hc
    obtain ⟨rfl, rfl⟩ := hc
    obtain ⟨hl, hp⟩ := partsOfA_sound ps.toList q hq
    obtain ⟨vs, hvs, hV⟩ := fill_sound (a := a) (fun i => some (i * ei.size, ei.size)) hs ps.toList q ti.zero zv.cells cs hl hp (VL.consts κ hz) he
    refine ⟨vs, ?_, hV⟩
    obtain ⟨it, hit, _, _, z', hz', h1, h2, h3⟩ := tok.info
    have hzz : z' = zv := by
      have := hzr w
      simp [zeroValue, typeInfo, hit, hz'] at this
      exact this
    subst hzz
    obtain ⟨ie, hie, hse, _⟩ := (hT _ _ hei).info
    refine run_build w t _ vs ?_
    unfold Program.built
    rw [hit, hu]
    simp only [hz', hie]
    rw [hlist, hse]
    exact hvs
end
end Go.Abs
/- Slicing, indexing, addresses, conversions. -/
namespace Go.Abs
set_option linter.unusedVariables false
set_option linter.unusedSimpArgs false
section
variable {P : Program} {T : Tys} (hT : TysOk P T) {κ : K} {h h' : AH} {w : World} {σ : Nat → Option AV} {a : Act} {v : AV}

/-- a bound and its value -/
def OI : Option Int → Option Value → Prop
  | none, none => True
  | some n, some v => ∃ k, v = .int k n
  | _, _ => False

theorem optInt_sound (hs : VS κ σ a.tmps) {x : Option Operand} {s : Option Src} {l : Option Int} (hc : osrcOf x = some s) (he : optInt σ s = some l) : OI l (x.map a.eval) := by
  cases x with
  | none => simp [osrcOf] at hc; subst hc; simp [optInt] at he; subst he; trivial
  | some o =>
    obtain ⟨y, hy, hc⟩ := ob_eq_some.1 hc
    simp only [Option.some.injEq] at hc; subst hc
    obtain ⟨v, hv, he⟩ := ob_eq_some.1 (show ob (src σ y) _ = some l from he)
    have hV := srcOf_sound hs hy hv
    cases v <;> simp at he
    subst he
    rename_i k n
    refine ⟨k, ?_⟩
    show a.eval o = _
    generalize a.eval o = q at hV
    cases hV; rfl

theorem bounds_sound (isS : Bool) (len cap : Nat) (lo hi mx : Option Int) (l u m : Option Value) (hl : OI lo l) (hu : OI hi u) (hm : OI mx m)
    (h1 : mx.isSome = true → hi.isSome = true) (h2 : 0 ≤ lo.getD 0) (h3 : lo.getD 0 ≤ hi.getD len) (h4 : hi.getD len ≤ mx.getD cap) (h5 : mx.getD cap ≤ cap) :
    (Instr.sliceBounds isS len cap l u m).run P w = .ok ((lo.getD 0).toNat, (hi.getD len).toNat, (mx.getD cap).toNat) w := by
  unfold Instr.sliceBounds
  cases mx with
  | none =>
    cases m with
    | some _ => exact hm.elim
    | none =>
      cases hi with
      | none =>
        cases u with
        | some _ => exact hu.elim
        | none =>
          cases lo with
          | none => cases l with
            | some _ => exact hl.elim
            | none => simp
          | some n => cases l with
            | none => exact hl.elim
            | some x =>
              obtain ⟨k, rfl⟩ := hl
              simp only [Option.getD_some, Option.getD_none] at h2 h3 h4 h5 ⊢
              simp [run_sliceBound w k n len _ h2 h3]
      | some q =>
        cases u with
        | none => exact hu.elim
        | some y =>
          obtain ⟨k', rfl⟩ := hu
          simp only [Option.getD_some, Option.getD_none] at h3 h4 h5 ⊢
          have hq : 0 ≤ q := by omega
          cases lo with
          | none => cases l with
            | some _ => exact hl.elim
            | none => cases isS <;> simp [run_sliceBound w k' q cap _ hq h4]
          | some n => cases l with
            | none => exact hl.elim
            | some x =>
              obtain ⟨k, rfl⟩ := hl
              simp only [Option.getD_some] at h2 h3 ⊢
              cases isS <;> simp [run_sliceBound w k' q cap _ hq h4, run_sliceBound w k n q.toNat _ h2 (by omega)]
  | some p =>
    cases m with
    | none => exact hm.elim
    | some z =>
      obtain ⟨k'', rfl⟩ := hm
      cases hi with
      | none => simp at h1
      | some q =>
        cases u with
        | none => exact hu.elim
        | some y =>
          obtain ⟨k', rfl⟩ := hu
          simp only [Option.getD_some] at h3 h4 h5 ⊢
          have hq : 0 ≤ q := by omega
          have hp : 0 ≤ p := by omega
          cases lo with
          | none => cases l with
            | some _ => exact hl.elim
            | none => cases isS <;> simp [run_sliceBound w k'' p cap _ hp h5, run_sliceBound w k' q p.toNat _ hq (by omega)]
          | some n => cases l with
            | none => exact hl.elim
            | some x =>
              obtain ⟨k, rfl⟩ := hl
              simp only [Option.getD_some] at h2 h3 ⊢
              cases isS <;> simp [run_sliceBound w k'' p cap _ hp h5, run_sliceBound w k' q p.toNat _ hq (by omega), run_sliceBound w k n q.toNat _ h2 (by omega)]

theorem addr_add (b o n : Nat) : (⟨b, o, none⟩ : Addr).add n = ⟨b, o + n, none⟩ := by
  unfold Addr.add; split
  · subst_vars; rfl
  · rfl

include hT in
theorem slice_sound (t : TypeId) (k : SeqK) (hk : seqOf T t = some k) (x : AV) (u : Value) (hx : V κ x u) (lo hi mx : Option Int) (l y m : Option Value) (hl : OI lo l) (hu : OI hi y) (hm : OI mx m)
    (he : aSlice k x lo hi mx = some v) : ∃ z, (Instr.sliceAt t u l y m).run P w = .ok z w ∧ V κ v z := by
  obtain ⟨ti, hti, hk⟩ := ob_eq_some.1 hk
  have tok := hT t ti hti
  have hun := tok.under
  cases e : ti.d <;> rw [e] at hk hun <;> simp only [descOk] at hun <;> dsimp only at hk <;> first | (cases hk; done) | skip
  case string =>
    simp only [Option.some.injEq] at hk; subst hk
    unfold aSlice at he
    cases x <;> dsimp only at he <;> first | (cases he; done) | skip
    rename_i s
    split at he
    case isFalse => cases he
    case isTrue hc =>
      simp only [Option.some.injEq] at he; subst he
      cases hx
      obtain ⟨h1, h2, h3, h4⟩ := hc
      have hmx : mx = none := by cases mx <;> simp_all
      subst hmx
      have hm' : m = none := by cases m with | none => rfl | some _ => exact hm.elim
      subst hm'
      have hb := bounds_sound (P := P) (w := w) false s.size s.size lo hi none l y none hl hu trivial (by simp) h2 h3 (by simpa using h4) (by simp)
      refine ⟨_, ?_, .str _⟩
      simp [Instr.sliceAt, Instr.slice, run_under hun, hb]
  case slice el =>
    obtain ⟨ei, hei, hk⟩ := ob_eq_some.1 hk
    simp only [Option.some.injEq] at hk; subst hk
    have hsz : ∀ w, (sizeOf el).run P w = .ok ei.size w := run_size (hT _ _ hei)
    cases x <;> first | (simp [aSlice] at he; done) | skip
    case slice nl sz es rm =>
      -- what both forms of the text ask
      have hq : ∃ rm', (mx.isSome = true → hi.isSome = true) ∧ 0 ≤ lo.getD 0 ∧ lo.getD 0 ≤ hi.getD es.length ∧ hi.getD es.length ≤ mx.getD es.length ∧ mx.getD es.length ≤ es.length ∧ (sz = ei.size ∨ es.isEmpty = true) ∧
          v = .slice nl sz ((es.take (hi.getD es.length).toNat).drop (lo.getD 0).toNat) rm' ∧
          (rm' = .full → (mx.isSome = true ∧ mx.getD es.length = hi.getD es.length) ∨ (mx = none ∧ hi.getD es.length = es.length ∧ rm = .full)) ∧ (∀ q, rm' = .own q → mx = none ∧ hi.getD es.length = es.length ∧ lo.getD 0 = 0 ∧ rm = .own q) := by
        unfold aSlice at he
        cases mx with
        | some p =>
          cases hi with
          | none => cases he
          | some q =>
            dsimp only at he
            split at he
            case isFalse => cases he
            case isTrue hc =>
              simp only [Option.some.injEq] at he; subst he
              obtain ⟨c1, c2, c3, c4, c5⟩ := hc
              refine ⟨_, by simp, c1, c2, c3, c4, c5, rfl, ?_, ?_⟩
              · intro hh; left
                split at hh
                · exact ⟨rfl, by simpa⟩
                · cases hh
              · intro q' hh; split at hh <;> cases hh
        | none =>
          dsimp only at he
          split at he
          case isFalse => cases he
          case isTrue hc =>
            simp only [Option.some.injEq] at he; subst he
            obtain ⟨c1, c2, c3, c4⟩ := hc
            refine ⟨_, by simp, c1, c2, by simpa using c3, by simp, c4, rfl, ?_, ?_⟩
            · intro hh; right
              split at hh
              · rename_i hend
                refine ⟨rfl, hend, ?_⟩
                split at hh
                · exact hh
                · split at hh
                  · assumption
                  · cases hh
              · cases hh
            · intro q hh
              split at hh
              · rename_i hend
                split at hh
                · rename_i hlo; exact ⟨rfl, hend, hlo, hh⟩
                · split at hh <;> cases hh
              · cases hh
      obtain ⟨rm', c1, c2, c3, c4, c5, c6, rfl, c7, c8⟩ := hq
      rcases V.slice_iff.1 hx with ⟨rfl, rfl, rfl⟩ | ⟨rfl, b, o, cap, rfl, hcap, hfull, hown, hel⟩
      · simp only [List.length_nil] at c3 c4 c5
        have hmle : mx.getD (0 : Nat) = 0 := by simp only [Int.natCast_zero] at c2 c3 c4 c5 ⊢; omega
        have hb := bounds_sound (P := P) (w := w) true 0 0 lo hi mx l y m hl hu hm c1 c2 (by simpa using c3) (by simpa using c4) (by simpa using c5)
        have e1 : (lo.getD 0).toNat = 0 := by simp only [Int.natCast_zero] at c2 c3 c4 c5; omega
        have e2 : (hi.getD (0 : Nat)).toNat = 0 := by simp only [Int.natCast_zero] at c2 c3 c4 c5 ⊢; omega
        have e3 : (mx.getD (0 : Nat)).toNat = 0 := by rw [hmle]; rfl
        rw [e1, e2, e3] at hb
        refine ⟨.slice none 0 0, ?_, by simpa using V.slnil sz rm'⟩
        simp [Instr.sliceAt, Instr.slice, run_under hun, hb, hsz]
      · have hb := bounds_sound (P := P) (w := w) true es.length cap lo hi mx l y m hl hu hm c1 c2 c3 (by cases mx <;> simp at c4 c5 ⊢ <;> omega) (by cases mx <;> simp at c4 c5 ⊢ <;> omega)
        refine ⟨.slice (some (if (mx.getD cap).toNat = (lo.getD 0).toNat then ⟨b, o, none⟩ else (⟨b, o, none⟩ : Addr).add ((lo.getD 0).toNat * ei.size))) ((hi.getD es.length).toNat - (lo.getD 0).toNat) ((mx.getD cap).toNat - (lo.getD 0).toNat), ?_, ?_⟩
        · simp only [Instr.sliceAt, Instr.slice, Sem.run_bind, run_under hun, Result.andThen_ok, hb, hsz, Sem.run_pure]
          congr 2
          split <;> rfl
        · have hlen : ((es.take (hi.getD es.length).toNat).drop (lo.getD 0).toNat).length = (hi.getD es.length).toNat - (lo.getD 0).toNat := by
            rw [List.length_drop, List.length_take]; omega
          have hbig : (hi.getD es.length).toNat ≤ (mx.getD cap).toNat := by cases mx <;> simp at c4 c5 ⊢ <;> omega
          rw [← hlen]
          have hadr : (if (mx.getD (cap : Int)).toNat = (lo.getD 0).toNat then (⟨b, o, none⟩ : Addr) else (⟨b, o, none⟩ : Addr).add ((lo.getD 0).toNat * ei.size)) =
              ⟨b, if (mx.getD (cap : Int)).toNat = (lo.getD 0).toNat then o else o + (lo.getD 0).toNat * ei.size, none⟩ := by
            rw [addr_add]; split <;> rfl
          rw [hadr]
          refine V.slice_iff.2 (.inr ⟨rfl, b, _, _, rfl, by rw [hlen]; omega, ?_, ?_, ?_⟩)
          · intro hh
            rw [hlen]
            rcases c7 hh with ⟨p1, p2⟩ | ⟨p1, p2, p3⟩
            · cases mx with
              | none => cases p1
              | some p => simp at p2 ⊢; omega
            · subst p1
              have := hfull p3
              simp only [Option.getD_none] at p2 ⊢
              omega
          · intro q hh
            obtain ⟨p1, p2, p3, p4⟩ := c8 q hh
            subst p1
            obtain ⟨kk, k1, k2, k3⟩ := hown q p4
            have hall : ((es.take (hi.getD es.length).toNat).drop (lo.getD 0).toNat) = es := by
              rw [p2, p3]; simp
            rw [hall]
            refine ⟨kk, k1, ?_, ?_⟩
            · intro hh; have := k2 hh; simp only [Option.getD_none]; omega
            · intro g c s hg
              obtain ⟨q1, q2, q3, q4⟩ := k3 g c s hg
              refine ⟨q1, ?_, by simp only [Option.getD_none]; omega, q4⟩
              rw [q2]
              split
              · rfl
              · rw [p3]; simp
          · by_cases hempty : ((es.take (hi.getD es.length).toNat).drop (lo.getD 0).toNat) = []
            · rw [hempty]; exact EL.nil _ _ _ _
            · have hne : (lo.getD 0).toNat < (hi.getD es.length).toNat := by
                rcases Nat.lt_or_ge (lo.getD 0).toNat (hi.getD es.length).toNat with hx | hx
                · exact hx
                · exact absurd (List.eq_nil_of_length_eq_zero (by rw [hlen]; omega)) hempty
              rw [if_neg (by omega)]
              have hszz : sz = ei.size := by
                rcases c6 with c6 | c6
                · exact c6
                · have : es = [] := by simpa using c6
                  subst this; simp at hempty
              rw [← hszz]
              exact (hel.take _).drop _
    case sref id off len cap =>
      simp only [aSlice] at he
      split at he
      case isFalse => cases he
      case isTrue hc =>
        simp only [Option.some.injEq] at he; subst he
        obtain ⟨c1, c2, c3, c4, c5⟩ := hc
        cases hx with
        | sref hφ hlc =>
        rename_i b
        have hb := bounds_sound (P := P) (w := w) true len cap lo hi mx l y m hl hu hm c1 c2 c3 c4 c5
        refine ⟨.slice (some (if (mx.getD cap).toNat = (lo.getD 0).toNat then ⟨b, off, none⟩ else (⟨b, off, none⟩ : Addr).add ((lo.getD 0).toNat * ei.size))) ((hi.getD len).toNat - (lo.getD 0).toNat) ((mx.getD cap).toNat - (lo.getD 0).toNat), ?_, ?_⟩
        · simp only [Instr.sliceAt, Instr.slice, Sem.run_bind, run_under hun, Result.andThen_ok, hb, hsz, Sem.run_pure]
          congr 2
          split <;> rfl
        · have e1 : (hi.getD (len : Int) - lo.getD 0).toNat = (hi.getD (len : Int)).toNat - (lo.getD 0).toNat := by omega
          have e2 : (mx.getD (cap : Int) - lo.getD 0).toNat = (mx.getD (cap : Int)).toNat - (lo.getD 0).toNat := by omega
          rw [e1, e2, addr_add]
          have e3 : (if (mx.getD (cap : Int)).toNat = (lo.getD 0).toNat then (⟨b, off, none⟩ : Addr) else ⟨b, off + (lo.getD 0).toNat * ei.size, none⟩) = ⟨b, if mx.getD (cap : Int) = lo.getD 0 then off else off + (lo.getD 0).toNat * ei.size, none⟩ := by
            by_cases hq : mx.getD (cap : Int) = lo.getD 0
            · rw [if_pos (by rw [hq]), if_pos hq]
            · rw [if_neg (by omega), if_neg hq]
          rw [e3]
          exact .sref hφ (by omega)
  case array n el =>
    obtain ⟨ei, hei, hk⟩ := ob_eq_some.1 hk
    simp only [Option.some.injEq] at hk; subst hk
    have hsz : ∀ w, (sizeOf el).run P w = .ok ei.size w := run_size (hT _ _ hei)
    cases x <;> first | (simp [aSlice] at he; done) | skip
    rename_i id off
    simp only [aSlice] at he
    split at he
    case isFalse => cases he
    case isTrue hc =>
      simp only [Option.some.injEq] at he; subst he
      obtain ⟨c1, c2, c3, c4, c5⟩ := hc
      cases hx with
      | ptr hφ =>
      rename_i b
      have hb := bounds_sound (P := P) (w := w) false n n lo hi mx l y m hl hu hm c1 c2 c3 c4 c5
      refine ⟨.slice (some (if (mx.getD n).toNat = (lo.getD 0).toNat then ⟨b, off, none⟩ else (⟨b, off, none⟩ : Addr).add ((lo.getD 0).toNat * ei.size))) ((hi.getD n).toNat - (lo.getD 0).toNat) ((mx.getD n).toNat - (lo.getD 0).toNat), ?_, ?_⟩
      · simp only [Instr.sliceAt, Instr.sureAddr, Sem.run_bind, run_under hun, Result.andThen_ok, hb, hsz, Sem.run_pure]
      · have e1 : (hi.getD (n : Int) - lo.getD 0).toNat = (hi.getD (n : Int)).toNat - (lo.getD 0).toNat := by omega
        have e2 : (mx.getD (n : Int) - lo.getD 0).toNat = (mx.getD (n : Int)).toNat - (lo.getD 0).toNat := by omega
        rw [e1, e2, addr_add]
        have e3 : (if (mx.getD (n : Int)).toNat = (lo.getD 0).toNat then (⟨b, off, none⟩ : Addr) else ⟨b, off + (lo.getD 0).toNat * ei.size, none⟩) = ⟨b, if mx.getD (n : Int) = lo.getD 0 then off else off + (lo.getD 0).toNat * ei.size, none⟩ := by
          by_cases hq : mx.getD (n : Int) = lo.getD 0
          · rw [if_pos (by rw [hq]), if_pos hq]
          · rw [if_neg (by omega), if_neg hq]
        rw [e3]
        exact .sref hφ (by omega)
end
end Go.Abs
/- Addresses, parts, lengths, conversions; loads. -/
namespace Go.Abs
set_option linter.unusedVariables false
set_option linter.unusedSimpArgs false
section
variable {P : Program} {T : Tys} (hT : TysOk P T) {κ : K} {h h' : AH} {w : World} {σ : Nat → Option AV} {a : Act} {v : AV} (r : R κ h w)

include hT in
theorem iaddr_sound (t : TypeId) (k : SeqK) (hk : seqOf T t = some k) (x : AV) (u : Value) (hx : V κ x u) (ik : IntKind) (i : Int) (he : aIndexAddr k x i = some v) (hstr : k ≠ .str) :
    ∃ z, (Instr.indexAt t u (.int ik i)).run P w = .ok z w ∧ V κ v z := by
  obtain ⟨ti, hti, hk⟩ := ob_eq_some.1 hk
  have tok := hT t ti hti
  have hun := tok.under
  cases e : ti.d <;> rw [e] at hk hun <;> simp only [descOk] at hun <;> dsimp only at hk <;> first | (cases hk; done) | skip
  case string => simp only [Option.some.injEq] at hk; exact absurd hk.symm hstr
  case slice el =>
    obtain ⟨ei, hei, hk⟩ := ob_eq_some.1 hk
    simp only [Option.some.injEq] at hk; subst hk
    have hsz : ∀ w, (sizeOf el).run P w = .ok ei.size w := run_size (hT _ _ hei)
    cases x <;> simp only [aIndexAddr] at he <;> first | (cases he; done) | skip
    case slice nl sz es rm =>
      split at he
      case isFalse => cases he
      case isTrue hc =>
        obtain ⟨c1, c2, c3⟩ := hc
        obtain ⟨y, hy, he⟩ := ob_eq_some.1 he
        simp only [Option.some.injEq] at he; subst he
        rcases V.slice_iff.1 hx with ⟨_, rfl, _⟩ | ⟨_, b, o, cap, rfl, hcap, hfull, hown, hel⟩
        · simp at hy
        · obtain ⟨_, h2⟩ := hel _ _ hy
          refine ⟨.pointer (some ⟨b, o + i.toNat * sz, none⟩), ?_, V.eptr_iff.2 ⟨b, _, rfl, h2⟩⟩
          subst c3
          simp [Instr.indexAt, asIntOf, run_under hun, hsz, c1, c2, addr_add]
    case sref id off len cap =>
      split at he
      case isFalse => cases he
      case isTrue hc =>
        simp only [Option.some.injEq] at he; subst he
        cases hx with
        | sref hφ hlc =>
        refine ⟨_, ?_, .ptr hφ⟩
        simp [Instr.indexAt, asIntOf, run_under hun, hsz, hc.1, hc.2, addr_add]
  case array n el =>
    obtain ⟨ei, hei, hk⟩ := ob_eq_some.1 hk
    simp only [Option.some.injEq] at hk; subst hk
    have hsz : ∀ w, (sizeOf el).run P w = .ok ei.size w := run_size (hT _ _ hei)
    cases x <;> simp only [aIndexAddr] at he <;> first | (cases he; done) | skip
    case ptr id off =>
      split at he
      case isFalse => cases he
      case isTrue hc =>
        simp only [Option.some.injEq] at he; subst he
        cases hx with
        | ptr hφ =>
        refine ⟨_, ?_, .ptr hφ⟩
        simp [Instr.indexAt, Instr.sureAddr, asIntOf, run_under hun, hsz, hc.1, hc.2, addr_add]
    case eptr cs =>
      split at he
      case isFalse => cases he
      case isTrue hc =>
        simp only [Option.some.injEq] at he; subst he
        obtain ⟨b, o, rfl, hm⟩ := V.eptr_iff.1 hx
        refine ⟨.pointer (some ⟨b, o + i.toNat * ei.size, none⟩), ?_, V.eptr_iff.2 ⟨b, _, rfl, hm.drop _⟩⟩
        simp [Instr.indexAt, Instr.sureAddr, asIntOf, run_under hun, hsz, hc.1, hc.2, addr_add]

include hT in
theorem idx_sound (t : TypeId) (k : SeqK) (hk : seqOf T t = some k) (x : AV) (u : Value) (hx : V κ x u) (ik : IntKind) (i : Int) (he : aIndex k x i = some v) :
    ∃ z, (Instr.index t u (.int ik i)).run P w = .ok z w ∧ V κ v z := by
  obtain ⟨ti, hti, hk⟩ := ob_eq_some.1 hk
  have tok := hT t ti hti
  have hun := tok.under
  cases e : ti.d <;> rw [e] at hk hun <;> simp only [descOk] at hun <;> dsimp only at hk <;> first | (cases hk; done) | skip
  case string =>
    simp only [Option.some.injEq] at hk; subst hk
    cases x <;> simp only [aIndex] at he <;> first | (cases he; done) | skip
    rename_i s
    split at he
    case isFalse => cases he
    case isTrue hc =>
      obtain ⟨b, hb, he⟩ := ob_eq_some.1 he
      simp only [Option.some.injEq] at he; subst he
      cases hx
      exact ⟨.int .u8 b.toNat, by simp [Instr.index, asIntOf, run_under hun, hc, hb], .int _ _⟩
  case slice el =>
    obtain ⟨ei, hei, hk⟩ := ob_eq_some.1 hk
    simp only [Option.some.injEq] at hk; subst hk
    cases x <;> simp [aIndex] at he
  case array n el =>
    obtain ⟨ei, hei, hk⟩ := ob_eq_some.1 hk
    simp only [Option.some.injEq] at hk; subst hk
    have hsz : ∀ w, (sizeOf el).run P w = .ok ei.size w := run_size (hT _ _ hei)
    cases x <;> simp only [aIndex] at he <;> first | (cases he; done) | skip
    rename_i cs
    split at he
    case isFalse => cases he
    case isTrue hc =>
      cases hx with
      | agg hl hh =>
      rename_i vs
      obtain ⟨z, hz, hV⟩ := shape_sound (w := w) (hT _ _ hei) (V.agg_iff.1 (.agg hl hh)) he (fun _ _ _ => trivial)
      refine ⟨z, ?_, hV⟩
      simp [Instr.index, asIntOf, run_under hun, hsz, hc.1, hc.2, hz]

theorem fld_sound {fl : Array Field} {fs : List (TypeId × Nat × Bool)} (hmap : fl.toList.map (fun f => (f.type, f.offset, f.name == "_")) = fs) {i : Nat} {fo : TypeId × Nat} (hf : fldOf fs i = some fo) :
    ∃ f, fl[i]? = some f ∧ f.type = fo.1 ∧ f.offset = fo.2 := by
  obtain ⟨g, hg, hf⟩ := ob_eq_some.1 hf
  simp only [Option.some.injEq] at hf; subst hf
  rw [← hmap, List.getElem?_map, Option.map_eq_some_iff] at hg
  obtain ⟨fd, hfd, rfl⟩ := hg
  exact ⟨fd, by simpa using hfd, rfl, rfl⟩

include hT in
theorem faddr_run (t : TypeId) (i : Nat) (fs : List (TypeId × Nat × Bool)) (ti fi : TI) (hti : T t = some ti) (e : ti.d = .struct fs) (fo : TypeId × Nat) (hf : fldOf fs i = some fo) (hfi : T fo.1 = some fi) (hsz : fi.size ≠ 0) (b o : Nat) :
    (Instr.fieldAt t (.pointer (some ⟨b, o, none⟩)) i).run P w = .ok (.pointer (some ⟨b, o + fo.2, none⟩)) w := by
  have hun := (hT t ti hti).under
  rw [e] at hun
  obtain ⟨fl, hfl, hmap, _⟩ := hun
  obtain ⟨f, h1, h2, h3⟩ := fld_sound hmap hf
  have hs := run_size (hT _ _ hfi) w
  rw [← h2] at hs
  simp [Instr.fieldAt, run_under hfl, h1, Instr.sureAddr, fieldPlace, hs, hsz, addr_add, h3]

include hT in
theorem field_sound (t : TypeId) (i : Nat) (fs : List (TypeId × Nat × Bool)) (ti fi : TI) (hti : T t = some ti) (e : ti.d = .struct fs) (fo : TypeId × Nat) (hf : fldOf fs i = some fo) (hfi : T fo.1 = some fi)
    (cs : List AV) (u : Value) (hx : V κ (.agg cs) u) (he : shapeOf fi.size fi.agg ((cs.drop fo.2).take fi.size) = some v) : ∃ z, (Instr.field t u i).run P w = .ok z w ∧ V κ v z := by
  have hun := (hT t ti hti).under
  rw [e] at hun
  obtain ⟨fl, hfl, hmap, _⟩ := hun
  obtain ⟨f, h1, h2, h3⟩ := fld_sound hmap hf
  cases hx with
  | agg hl hh =>
  obtain ⟨z, hz, hV⟩ := shape_sound (w := w) (hT _ _ hfi) (V.agg_iff.1 (.agg hl hh)) he (fun _ _ _ => trivial)
  refine ⟨z, ?_, hV⟩
  simp [Instr.field, run_under hfl, h1, asAgg, h2, h3, hz]

include hT in
theorem len_sound (t ty : TypeId) (k : SeqK) (hk : seqOf T t = some k) (x : AV) (u : Value) (hx : V κ x u) (he : aLen k x = some v) : ∃ z, (Builtin.len_ #[t] ty #[u]).run P w = .ok z w ∧ V κ v z := by
  obtain ⟨ti, hti, hk⟩ := ob_eq_some.1 hk
  have tok := hT t ti hti
  have hun := tok.under
  cases e : ti.d <;> rw [e] at hk hun <;> simp only [descOk] at hun <;> dsimp only at hk <;> first | (cases hk; done) | skip
  case string =>
    simp only [Option.some.injEq] at hk; subst hk
    cases x <;> simp only [aLen] at he <;> first | (cases he; done) | skip
    simp only [Option.some.injEq] at he; subst he
    cases hx
    exact ⟨_, by simp [Builtin.len_, run_under hun]; rfl, .int _ _⟩
  case slice el =>
    obtain ⟨ei, hei, hk⟩ := ob_eq_some.1 hk
    simp only [Option.some.injEq] at hk; subst hk
    cases x <;> simp only [aLen] at he <;> first | (cases he; done) | skip
    case slice nl sz es rm =>
      simp only [Option.some.injEq] at he; subst he
      rcases V.slice_iff.1 hx with ⟨_, rfl, rfl⟩ | ⟨_, b, o, cap, rfl, _⟩
      · exact ⟨.int .i64 0, by simp [Builtin.len_, run_under hun, goInt], .int _ _⟩
      · exact ⟨.int .i64 es.length, by simp [Builtin.len_, run_under hun, goInt], .int _ _⟩
    case sref id off len cap =>
      simp only [Option.some.injEq] at he; subst he
      cases hx
      exact ⟨.int .i64 len, by simp [Builtin.len_, run_under hun, goInt], .int _ _⟩
  case array n el =>
    obtain ⟨ei, hei, hk⟩ := ob_eq_some.1 hk
    simp only [Option.some.injEq] at hk; subst hk
    have : v = .int .i64 n := by cases x <;> simp [aLen] at he <;> exact he.symm
    subst this
    exact ⟨.int .i64 n, by simp [Builtin.len_, run_under hun, goInt], .int _ _⟩

theorem cap_sound (t ty : TypeId) (el : TypeId) (hu : P.underlying t = some (.slice el)) (x : AV) (u : Value) (hx : V κ x u) (he : aCap x = some v) : ∃ z, (Builtin.cap_ #[t] ty #[u]).run P w = .ok z w ∧ V κ v z := by
  unfold aCap at he
  split at he
  · simp only [Option.some.injEq] at he; subst he
    rcases V.slice_iff.1 hx with ⟨_, rfl, rfl⟩ | ⟨_, b, o, cap, rfl, _, hf, _⟩
    · exact ⟨.int .i64 0, by simp [Builtin.cap_, run_under hu, goInt], .int _ _⟩
    · have := hf rfl
      subst this
      exact ⟨_, by simp [Builtin.cap_, run_under hu, goInt], .int _ _⟩
  · simp only [Option.some.injEq] at he; subst he
    cases hx
    exact ⟨_, by simp [Builtin.cap_, run_under hu]; rfl, .int _ _⟩
  · cases he

/-- the bytes of a run of cells -/
theorem bytesOf_sound : ∀ (l : List AV) (bs : List UInt8), bytesOf l = some bs → ∀ (vs : List Value), VL κ l vs → ∃ ns : List Int, vs = ns.map (fun n => Value.int .u8 n) ∧ bs = ns.map fun n => UInt8.ofNat n.toNat := by
  intro l
  induction l with
  | nil => intro bs h vs hv; simp [bytesOf] at h; subst h; have := hv.inv_nil; subst this; exact ⟨[], rfl, rfl⟩
  | cons x l ih =>
    intro bs h vs hv
    obtain ⟨y, q, rfl, h1, h2⟩ := hv.inv_cons
    unfold bytesOf at h
    split at h <;> first | (cases h; done) | skip
    · rename_i heq; cases heq
    · rename_i n l' heq
      cases heq
      obtain ⟨b', hb', h⟩ := ob_eq_some.1 h
      simp only [Option.some.injEq] at h; subst h
      obtain ⟨ns, e1, e2⟩ := ih b' hb' q h2
      cases h1
      exact ⟨n :: ns, by simp [e1], by simp [e2]⟩
    all_goals cases h

theorem flat_bytes : ∀ (l : List AV) (bs : List UInt8), bytesOf l = some bs → l.flatMap AV.cells = l := by
  intro l
  induction l with
  | nil => intro bs _; rfl
  | cons x l ih =>
    intro bs h
    unfold bytesOf at h
    split at h <;> first | (cases h; done) | skip
    · rename_i heq; cases heq
    · rename_i n l' heq
      cases heq
      obtain ⟨b', hb', _⟩ := ob_eq_some.1 h
      rw [List.flatMap_cons, ih b' hb']
      rfl

include hT in
theorem conv_sound (s d : TypeId) (k : ConvK) (hk : convOf T s d = some k) (x : AV) (u : Value) (hx : V κ x u) (he : aConv k h x = some v) (hb : k ≠ .toBytes) (r : R κ h w) : ∃ z, (convert s d u).run P w = .ok z w ∧ V κ v z := by
  obtain ⟨si, hsi, hk⟩ := ob_eq_some.1 hk
  obtain ⟨di, hdi, hk⟩ := ob_eq_some.1 hk
  have us := (hT s si hsi).under
  have ud := (hT d di hdi).under
  cases e1 : si.d <;> cases e2 : di.d <;> rw [e1, e2] at hk <;> rw [e1] at us <;> rw [e2] at ud <;> dsimp only at hk <;> first | (cases hk; done) | skip
  case int.int k1 k2 =>
    simp only [Option.some.injEq] at hk; subst hk
    simp only [descOk] at us ud
    cases x <;> simp only [aConv] at he <;> first | (cases he; done) | skip
    simp only [Option.some.injEq] at he; subst he
    cases hx
    exact ⟨_, by simp [convert, run_under us, run_under ud, Conv.intToInt], .int _ _⟩
  case string.string =>
    simp only [Option.some.injEq] at hk; subst hk
    simp only [descOk] at us ud
    cases x <;> simp only [aConv] at he <;> first | (cases he; done) | skip
    simp only [Option.some.injEq] at he; subst he
    cases hx
    exact ⟨_, by simp [convert, run_under us, run_under ud], .str _⟩
  case string.slice el =>
    obtain ⟨ei, hei, hk⟩ := ob_eq_some.1 hk
    split at hk
    · simp only [Option.some.injEq] at hk; exact absurd hk.symm hb
    · cases hk
  case slice.string el =>
    obtain ⟨ei, hei, hk⟩ := ob_eq_some.1 hk
    split at hk
    case h_2 => cases hk
    case h_1 he8 =>
      simp only [Option.some.injEq] at hk; subst hk
      simp only [descOk] at us ud
      have ue := (hT el ei hei).under
      rw [he8] at ue
      simp only [descOk] at ue
      have fin : ∀ (b o cap : Nat) (cs : List AV) (bs : List UInt8) (vs : List Value), VL κ cs vs → (∀ j v, vs[j]? = some v → w.cell? ⟨b, o + j, none⟩ = some v) → bytesOf cs = some bs →
          (convert s d (.slice (some ⟨b, o, none⟩) cs.length cap)).run P w = .ok (.string ⟨bs.toArray⟩) w := by
        intro b o cap cs bs vs hv hcell hbs
        obtain ⟨ns, e1, e2⟩ := bytesOf_sound cs bs hbs vs hv
        have hlen : ns.length = cs.length := by rw [hv.1, e1]; simp
        rw [run_convert_bytes_arg w s el us ue b o cs.length cap ns hlen (fun i hi => by
          refine hcell i _ ?_
          rw [e1, List.getElem?_map, List.getElem?_eq_getElem (by omega)]
          simp [List.getD, List.getElem?_eq_getElem (show i < ns.length by omega)]) d ud]
        congr 2
        rw [e2]
        rfl
      cases x <;> simp only [aConv] at he <;> first | (cases he; done) | skip
      case slice nl sz es rm =>
        split at he
        case isFalse => cases he
        case isTrue hc =>
          obtain ⟨bs, hbs, he⟩ := ob_eq_some.1 he
          simp only [Option.some.injEq] at he; subst he
          rcases V.slice_iff.1 hx with ⟨_, rfl, rfl⟩ | ⟨_, b, o, cap, rfl, _, _, _, hel⟩
          · simp [bytesOf] at hbs; subst hbs
            refine ⟨.string .empty, ?_, .str _⟩
            exact run_convert_bytes_nil w s el us ue 0 0 d ud
          · obtain ⟨⟨vs, hv, hm⟩, _⟩ := EL.flat hel
            rw [flat_bytes es bs hbs] at hv
            exact ⟨_, fin b o cap es bs vs hv (fun j v hj => r.m _ _ _ (hm j v hj)) hbs, .str _⟩
      case sref id off len cap =>
        obtain ⟨bk, hbk, he⟩ := ob_eq_some.1 he
        split at he
        case isFalse => cases he
        case isTrue hc =>
          obtain ⟨bs, hbs, he⟩ := ob_eq_some.1 he
          simp only [Option.some.injEq] at he; subst he
          cases hx with
          | sref hφ hl =>
          rename_i b
          obtain ⟨⟨e, vs, hrow, hv⟩, _⟩ := r.blk id bk b hbk hφ
          have hlen : ((bk.cs.drop off).take len).length = len := by rw [List.length_take, List.length_drop]; omega
          have := fin b off cap _ bs _ ((hv.drop off).take len) (fun j v hj => by
            rw [cell_of_row w b (off + j) vs e (0, 0) hrow]
            rw [List.getElem?_take] at hj
            split at hj
            · rw [List.getElem?_drop] at hj; simpa using hj
            · cases hj) hbs
          rw [hlen] at this
          exact ⟨_, this, .str _⟩

theorem conv_int (s d : TypeId) (k : IntKind) (h1 : ∃ k', P.underlying s = some (.int k')) (h2 : P.underlying d = some (.int k)) (k' : IntKind) (n : Int) : (convert s d (.int k' n)).run P w = .ok (.int k (k.wrap n)) w := by
  obtain ⟨q, h1⟩ := h1
  simp [convert, run_under h1, run_under h2, Conv.intToInt]
end
end Go.Abs
/- Operations on memory. -/
namespace Go.Abs
set_option linter.unusedVariables false
set_option linter.unusedSimpArgs false

def K.bind (κ : K) (id b : Nat) : K := { κ with φ := fun i => if i = id then some b else κ.φ i }
theorem K.bind_le {κ : K} {id b : Nat} (h : κ.φ id = none) : K.le κ (κ.bind id b) := by
  refine ⟨fun _ _ _ h => h, fun i b' hb => ?_, fun _ _ _ h => h⟩
  simp only [K.bind]
  split
  · subst_vars; rw [h] at hb; cases hb
  · exact hb
theorem K.bind_at (κ : K) (id b : Nat) : (κ.bind id b).φ id = some b := by simp [K.bind]

theorem lt_of_row {w : World} {b : Nat} {o : Obj} (h : w.heap[b]? = some o) : b < w.heap.size := by
  rcases Nat.lt_or_ge b w.heap.size with h' | h'
  · exact h'
  · rw [Array.getElem?_eq_none h'] at h; cases h

section
variable {κ : K} {h h' : AH} {w : World}

theorem R.m_new (r : R κ h w) (o : Nat) : κ.m w.heap.size o = none := by
  cases e : κ.m w.heap.size o with
  | none => rfl
  | some v => have := block_lt_of_cell (r.m _ _ _ e); simp at this
theorem R.m_ge (r : R κ h w) {b : Nat} (hb : w.heap.size ≤ b) (o : Nat) : κ.m b o = none := by
  cases e : κ.m b o with
  | none => rfl
  | some v => have := block_lt_of_cell (r.m _ _ _ e); simp at this; omega

/-- a block of the call's own that may be written -/
theorem R.newBlk (r : R κ h w) (id : Nat) (bk : Blk) (e : TypeId) (vs : Array Value) (hv : VL κ bk.cs vs.toList) (hφ : κ.φ id = none) (hid : id < h'.blocks.length) (hle : h.blocks.length ≤ h'.blocks.length)
    (htok : h'.toks = h.toks) (hget : h'.get id = some bk) (hoth : ∀ j, j ≠ id → h'.get j = h.get j) :
    R (κ.bind id w.heap.size) h' (w.alloc (.cells vs e)) ∧ Go κ h w (κ.bind id w.heap.size) h' (w.alloc (.cells vs e)) := by
  have hle' := K.bind_le (b := w.heap.size) hφ
  have hnew : (w.alloc (.cells vs e)).heap[w.heap.size]? = some (.cells vs e (0, 0)) := heap_alloc_new w _
  constructor
  · refine ⟨fun b o v hm => ?_, fun j b hj => ?_, fun i j b hi hj => ?_, fun j bk' b hj hb => ?_, ?_, fun t n g c s ht hτ => ?_, ?_⟩
    · have h0 := r.m b o v hm
      rw [World.cell?_alloc_lt _ _ _ (block_lt_of_cell h0)]; exact h0
    · simp only [K.bind] at hj
      split at hj
      · subst_vars; cases hj; exact ⟨hid, by simp⟩
      · have := r.dom j b hj; exact ⟨by omega, by simp; omega⟩
    · simp only [K.bind] at hi hj
      split at hi <;> split at hj
      · subst_vars; rfl
      · cases hi; have := (r.dom _ _ hj).2; simp at this
      · cases hj; have := (r.dom _ _ hi).2; simp at this
      · exact r.inj i j b hi hj
    · simp only [K.bind] at hb
      split at hb
      · subst_vars; cases hb
        rw [hget] at hj; cases hj
        exact ⟨⟨e, vs, hnew, hv.mono hle'⟩, fun o => r.m_new o⟩
      · rename_i hne
        rw [hoth j hne] at hj
        obtain ⟨⟨e', vs', h1, h2⟩, h3⟩ := r.blk j bk' b hj hb
        exact ⟨⟨e', vs', by rw [heap_alloc_lt _ _ (lt_of_row h1)]; exact h1, h2.mono hle'⟩, h3⟩
    · intro t n k hk; rw [htok]; exact r.tlt t n k hk
    · rw [htok] at ht
      obtain ⟨h1, ⟨e', cur, h2, h3⟩, h4, h5⟩ := r.tok t n g c s ht hτ
      refine ⟨h1, ⟨e', cur, by rw [heap_alloc_lt _ _ (lt_of_row h2)]; exact h2, h3⟩, h4, fun i hi => ?_⟩
      simp only [K.bind] at hi
      split at hi
      · cases hi; have := lt_of_row h2; simp at this
      · exact h5 i hi
    · intro t t' n n' g c c' s s' h1 h2 h3 h4
      rw [htok] at h1 h3
      exact r.tdj t t' n n' g c c' s s' h1 h2 h3 h4
  · refine ⟨hle', rfl, rfl, rfl, by simp, fun b hb _ => heap_alloc_lt w _ hb, fun b hf => ?_, fun _ _ _ h => .inl h, hle⟩
    rcases hf with ⟨j, bk', hj, hb⟩ | ⟨t, n, c, s, ht, hτ⟩
    · simp only [K.bind] at hb
      split at hb
      · cases hb; exact .inr (Nat.le_refl _)
      · rename_i hne; rw [hoth j hne] at hj; exact .inl (.inl ⟨j, bk', hj, hb⟩)
    · rw [htok] at ht; exact .inl (.inr ⟨t, n, c, s, ht, hτ⟩)

/-- a block that nobody writes -/
theorem R.newFix (r : R κ h w) (e : TypeId) (vs : Array Value) (fr : Nat × Nat := (0, 0)) :
    R (κ.fix w.heap.size fun o => vs[o]?) h (w.alloc (.cells vs e fr)) ∧ Go κ h w (κ.fix w.heap.size fun o => vs[o]?) h (w.alloc (.cells vs e fr)) ∧
      ∀ j v, vs[j]? = some v → (κ.fix w.heap.size fun o => vs[o]?).m w.heap.size j = some v := by
  have hle := K.fix_le κ w.heap.size fun o => vs[o]?
  have hne : ∀ b, b ≠ w.heap.size → ∀ o, (κ.fix w.heap.size fun o => vs[o]?).m b o = κ.m b o := by intro b hb o; simp [K.fix, hb]
  refine ⟨⟨fun b o v hm => ?_, fun j b hj => ?_, r.inj, fun j bk b hj hb => ?_, r.tlt, fun t n g c s ht hτ => ?_, r.tdj⟩, ⟨hle, rfl, rfl, rfl, by simp, fun b hb _ => heap_alloc_lt w _ hb, fun b hf => .inl hf, fun b o v hv => ?_, Nat.le_refl _⟩, fun j v hj => ?_⟩
  · by_cases hb : b = w.heap.size
    · subst hb
      simp only [K.fix, if_true, r.m_new] at hm
      rw [cell_of_row _ _ _ _ _ _ (heap_alloc_new w _)]; exact hm
    · rw [hne b hb] at hm
      have h0 := r.m b o v hm
      rw [World.cell?_alloc_lt _ _ _ (block_lt_of_cell h0)]; exact h0
  · have := r.dom j b hj; exact ⟨this.1, by simp; omega⟩
  · obtain ⟨⟨e', vs', h1, h2⟩, h3⟩ := r.blk j bk b hj hb
    exact ⟨⟨e', vs', by rw [heap_alloc_lt _ _ (lt_of_row h1)]; exact h1, h2.mono hle⟩, fun o => by rw [hne b (by have := lt_of_row h1; omega)]; exact h3 o⟩
  · obtain ⟨h1, ⟨e', cur, h2, h3⟩, h4, h5⟩ := r.tok t n g c s ht hτ
    exact ⟨h1, ⟨e', cur, by rw [heap_alloc_lt _ _ (lt_of_row h2)]; exact h2, h3⟩, fun o ho => by rw [hne g (by have := lt_of_row h2; omega)]; exact h4 o ho, h5⟩
  · by_cases hb : b = w.heap.size
    · exact .inr (.inr (by omega))
    · rw [hne b hb] at hv; exact .inl hv
  · exact K.fix_at (r.m_new j) hj

theorem R.mvl_new (r : R κ h w) (vs : Array Value) (cs : List AV) (hv : VL κ cs vs.toList) : MVL (κ.fix w.heap.size fun o => vs[o]?) w.heap.size 0 cs :=
  ⟨vs.toList, hv.mono (K.fix_le _ _ _), fun j v hj => by rw [Nat.zero_add]; exact K.fix_at (r.m_new j) (by simpa using hj)⟩

/-- a block is written -/
theorem R.put (r : R κ h w) {id b : Nat} {bk : Blk} (hg : h.get id = some bk) (hφ : κ.φ id = some b) (cs' : List AV) (vs' : Array Value) (hv : VL κ cs' vs'.toList) :
    R κ (h.set id (some ⟨bk.made, cs'⟩)) (w.setRow b vs') ∧ Go κ h w κ (h.set id (some ⟨bk.made, cs'⟩)) (w.setRow b vs') := by
  obtain ⟨⟨e, vs, hrow, hold⟩, hfree⟩ := r.blk id bk b hg hφ
  have hid := (r.dom id b hφ).1
  have hset : ∀ j, (h.set id (some ⟨bk.made, cs'⟩)).get j = if j = id then some ⟨bk.made, cs'⟩ else h.get j := by
    intro j
    simp only [AH.get, AH.set, List.getElem?_set]
    by_cases hj : j = id
    · subst hj; simp [hid]
    · rw [if_neg (fun e => hj e.symm), if_neg hj]
  have hlen : (h.set id (some ⟨bk.made, cs'⟩)).blocks.length = h.blocks.length := by simp [AH.set]
  constructor
  · refine ⟨fun b' o v hm => ?_, fun j b' hj => by rw [hlen]; have := r.dom j b' hj; exact ⟨this.1, by simpa using this.2⟩, r.inj, fun j bk' b' hj hb => ?_, r.tlt, fun t n g c s ht hτ => ?_, r.tdj⟩
    · have h0 := r.m b' o v hm
      have hne : b' ≠ b := by rintro rfl; rw [hfree o] at hm; cases hm
      rw [cell_setRow_other w b vs' _ hne]; exact h0
    · rw [hset j] at hj
      split at hj
      · subst_vars; cases hj
        rw [hφ] at hb; cases hb
        exact ⟨⟨e, vs', setRow_heap w b vs vs' e (0, 0) hrow, hv⟩, hfree⟩
      · rename_i hne
        obtain ⟨⟨e', vs2, h1, h2⟩, h3⟩ := r.blk j bk' b' hj hb
        have hbb : b' ≠ b := by rintro rfl; exact hne (r.inj j id b' hb hφ)
        exact ⟨⟨e', vs2, by rw [setRow_other w b b' vs' hbb]; exact h1, h2⟩, h3⟩
    · obtain ⟨h1, ⟨e', cur, h2, h3⟩, h4, h5⟩ := r.tok t n g c s ht hτ
      have hgb : g ≠ b := by rintro rfl; exact h5 id hφ
      exact ⟨h1, ⟨e', cur, by rw [setRow_other w b g vs' hgb]; exact h2, h3⟩, h4, h5⟩
  · refine ⟨.refl κ, rfl, rfl, rfl, by simp, fun b' _ hf => setRow_other w b b' vs' ?_, fun b' hf => .inl ?_, fun _ _ _ h => .inl h, by rw [hlen]; exact Nat.le_refl _⟩
    · rintro rfl; exact hf (.inl ⟨id, bk, hg, hφ⟩)
    · rcases hf with ⟨j, bk', hj, hb⟩ | hf
      · rw [hset j] at hj
        split at hj
        · subst_vars; exact .inl ⟨_, bk, hg, hb⟩
        · exact .inl ⟨j, bk', hj, hb⟩
      · exact .inr hf
end

section
variable {P : Program} {T : Tys} (hT : TysOk P T) {κ : K} {h h' : AH} {w : World} {σ : Nat → Option AV} {a : Act} {v : AV} (r : R κ h w)

theorem loadVar_sound {t : TypeId} {ti : TI} (tok : TyOk P t ti) {s : List AV} {us : List Value} (hv : VL κ s us) (hl : s.length = ti.size) (b o : Nat) (hc : ∀ j v, us[j]? = some v → w.cell? ⟨b, o + j, none⟩ = some v)
    (he : shapeOf ti.size ti.agg s = some v) : ∃ z, (loadVar t ⟨b, o, none⟩).run P w = .ok z w ∧ V κ v z := by
  unfold shapeOf at he
  rw [if_pos hl] at he
  unfold loadVar
  cases hagg : ti.agg with
  | true =>
    rw [hagg] at he
    simp only [if_true, Option.some.injEq] at he; subst he
    have hus : us.length = ti.size := by rw [← hv.1, hl]
    have hload := run_loadCells_list (P := P) w ⟨b, o, none⟩ us (fun j v hj => by rw [addr_add]; exact hc j v hj)
    rw [hus] at hload
    exact ⟨.agg us.toArray, by simp [run_isAgg tok, run_size tok, hagg, hload], V.agg_iff.2 (by simpa using hv)⟩
  | false =>
    rw [hagg] at he
    simp only [Bool.false_eq_true, if_false] at he
    split at he
    · simp only [Option.some.injEq] at he; subst he
      obtain ⟨u, q, rfl, h1, h2⟩ := hv.inv_cons
      have := hc 0 u rfl
      exact ⟨u, by simp only [Nat.add_zero] at this; simp [run_isAgg tok, hagg, this], h1⟩
    · cases he

include hT r in
theorem load_sound (t : TypeId) (ti : TI) (hti : T t = some ti) (x : AV) (u : Value) (hx : V κ x u) (he : aLoad ti.size ti.agg h x = some v) : ∃ z, (Instr.loadAt t u).run P w = .ok z w ∧ V κ v z := by
  have tok := hT t ti hti
  cases x <;> simp only [aLoad] at he <;> first | (cases he; done) | skip
  case ptr id off =>
    obtain ⟨bk, hbk, he⟩ := ob_eq_some.1 he
    cases hx with
    | ptr hφ =>
    rename_i b
    obtain ⟨⟨e, vs, hrow, hv⟩, _⟩ := r.blk id bk b hbk hφ
    have hl : ((bk.cs.drop off).take ti.size).length = ti.size := by
      unfold shapeOf at he; split at he
      · assumption
      · cases he
    obtain ⟨z, hz, hV⟩ := loadVar_sound (w := w) tok ((hv.drop off).take ti.size) hl b off (fun j v hj => by
      rw [cell_of_row w b (off + j) vs e (0, 0) hrow]
      rw [List.getElem?_take] at hj
      split at hj
      · rw [List.getElem?_drop] at hj; simpa using hj
      · cases hj) he
    exact ⟨z, by simp [Instr.loadAt, Instr.sureAddr, hz], hV⟩
  case eptr cs =>
    obtain ⟨b, o, rfl, hm⟩ := V.eptr_iff.1 hx
    obtain ⟨vs, hv, hm⟩ := hm.take ti.size
    have hl : (cs.take ti.size).length = ti.size := by
      unfold shapeOf at he; split at he
      · assumption
      · cases he
    obtain ⟨z, hz, hV⟩ := loadVar_sound (w := w) tok hv hl b o (fun j v hj => r.m _ _ _ (hm j v hj)) he
    exact ⟨z, by simp [Instr.loadAt, Instr.sureAddr, hz], hV⟩

include hT r in
theorem store_sound (t : TypeId) (ti : TI) (hti : T t = some ti) (x y : AV) (u z : Value) (hx : V κ x u) (hy : V κ y z) (he : aStore ti.size h x y = some h') :
    ∃ w', (Instr.storeAt t u z).run P w = .ok () w' ∧ R κ h' w' ∧ Go κ h w κ h' w' := by
  have tok := hT t ti hti
  cases x <;> simp only [aStore] at he <;> first | (cases he; done) | skip
  rename_i id off
  obtain ⟨bk, hbk, he⟩ := ob_eq_some.1 he
  split at he
  case isFalse => cases he
  case isTrue hc =>
    obtain ⟨c1, c2, c3⟩ := hc
    simp only [Option.some.injEq] at he; subst he
    cases hx with
    | ptr hφ =>
    rename_i b
    obtain ⟨⟨e, vs, hrow, hv⟩, _⟩ := r.blk id bk b hbk hφ
    have hcells := hy.cells
    have hsz : z.cells.size = ti.size := by rw [← c1, hcells.1]; simp
    have hone : ∀ q ∈ z.cells.toList, q.oneCell' = true := by
      intro q hq
      obtain ⟨i, hi, rfl⟩ := List.getElem_of_mem hq
      have hi' : i < y.cells.length := by rw [hcells.1]; exact hi
      have := hcells.to i _ _ (List.getElem?_eq_getElem hi') (List.getElem?_eq_getElem hi)
      rw [this.scalar]
      exact List.all_eq_true.1 c2 _ (List.getElem_mem hi')
    have hvl : vs.size = bk.cs.length := by rw [hv.1]; simp
    have hzl : z.cells.toList.length = y.cells.length := hcells.1.symm
    have hst := run_storeCells_at (P := P) b off e z.cells.toList 0 vs w hrow (by rw [hzl, hvl]; omega) hone
    simp only [Nat.add_zero] at hst
    have hnew := overwrite_sound hv hcells off
    obtain ⟨hR, hG⟩ := r.put hbk hφ (overwrite bk.cs off y.cells) _ (by simpa using hnew)
    refine ⟨_, ?_, hR, hG⟩
    simp only [Instr.storeAt, Instr.sureAddr, storeVar, Sem.run_bind, Sem.run_pure, Result.andThen_ok, run_size tok]
    rw [if_neg (by simpa using hsz)]
    simpa using hst
end
end Go.Abs
/- append -/
namespace Go.Abs
set_option linter.unusedVariables false
set_option linter.unusedSimpArgs false
section
variable {P : Program} {κ : K} {h h' : AH} {w : World}

def strOrSlice (du : TypeDesc) : Prop := du = .string ∨ ∃ e, du = .slice e

theorem append_empty (t u ty e : TypeId) (du : TypeDesc) (ht : P.underlying t = some (.slice e)) (hi : ∃ i, P.info? e = some i) (hu : P.underlying u = some du) (hdu : strOrSlice du) (base : Option Addr) (sLen sCap : Nat) (hcap : sLen ≤ sCap) (x : Value)
    (hx : (∃ b c, x = .slice b 0 c) ∨ ∃ s, x = .string s ∧ s.size = 0) : (Builtin.append_ #[t, u] ty #[.slice base sLen sCap, x]).run P w = .ok (.slice base sLen sCap) w := by
  obtain ⟨i, hi⟩ := hi
  have hf : ∀ size, (Builtin.lenOf x).run P w = .ok 0 w ∧ (Builtin.firstCells size 0 x).run P w = .ok #[] w := by
    intro size
    rcases hx with ⟨b, c, rfl⟩ | ⟨s, rfl, hs⟩
    · exact ⟨by simp [Builtin.lenOf], by cases b <;> simp [Builtin.firstCells, loadCells, loadCellsFrom]⟩
    · exact ⟨by simp [Builtin.lenOf, hs], by simp [Builtin.firstCells]⟩
  obtain ⟨h1, h2⟩ := hf i.size
  rcases hdu with rfl | ⟨e', rfl⟩
  · cases base <;> simp [Builtin.append_, run_underlying ht, run_underlying hu, sizeOf, typeInfo, hi, h1, hcap, h2, storeCells]
  · cases base <;> simp [Builtin.append_, run_underlying ht, run_underlying hu, sizeOf, typeInfo, hi, h1, hcap, h2, storeCells]

/-- where there is room -/
theorem append_room (t u ty e : TypeId) (i : TypeInfo) (du : TypeDesc) (ht : P.underlying t = some (.slice e)) (hi : P.info? e = some i) (hu : P.underlying u = some du) (hdu : strOrSlice du)
    (g sLen sCap : Nat) (cur : Array Value) (te : TypeId) (hg : w.heap[g]? = some (.cells cur te (0, 0)))
    (x : Value) (m : Nat) (news : List Value) (hm : (Builtin.lenOf x).run P w = .ok m w) (hf : (Builtin.firstCells i.size m x).run P w = .ok news.toArray w) (h1 : ∀ q ∈ news, q.oneCell' = true)
    (hroom : sLen + m ≤ sCap) (hfit : sLen * i.size + news.length ≤ cur.size) :
    (Builtin.append_ #[t, u] ty #[.slice (some ⟨g, 0, none⟩) sLen sCap, x]).run P w =
      .ok (.slice (some ⟨g, 0, none⟩) (sLen + m) sCap) (w.setRow g (cur.toList.take (sLen * i.size) ++ news ++ cur.toList.drop (sLen * i.size + news.length)).toArray) := by
  have hst := run_storeCells_at P g (sLen * i.size) te news 0 cur w hg (by simpa using hfit) h1
  simp only [Nat.add_zero] at hst
  have hadd : (⟨g, 0, none⟩ : Addr).add (sLen * i.size) = ⟨g, sLen * i.size, none⟩ := by rw [addr_add]; simp
  rcases hdu with rfl | ⟨e', rfl⟩
  · simp [Builtin.append_, run_underlying ht, run_underlying hu, sizeOf, typeInfo, hi, hm, hroom, hf, hadd, hst]
  · simp [Builtin.append_, run_underlying ht, run_underlying hu, sizeOf, typeInfo, hi, hm, hroom, hf, hadd, hst]

/-- where there is none -/
theorem append_grow (t u ty e : TypeId) (i : TypeInfo) (z : Value) (du : TypeDesc) (ht : P.underlying t = some (.slice e)) (hi : P.info? e = some i) (hz : i.zero = some z) (hu : P.underlying u = some du) (hdu : strOrSlice du)
    (base : Option Addr) (sLen sCap : Nat) (olds : List Value) (ho : (Builtin.firstCells i.size sLen (.slice base sLen sCap)).run P w.drew = .ok olds.toArray w.drew)
    (x : Value) (m : Nat) (news : List Value) (hm : (Builtin.lenOf x).run P w = .ok m w) (hf : (Builtin.firstCells i.size m x).run P w.drew = .ok news.toArray w.drew)
    (hg : sCap < sLen + m) (h63 : ((sLen + m : Nat) : Int) ≤ 9223372036854775807) (hfit : Builtin.nextslicecap (sLen + m) sCap * i.bytes ≤ 281474976710656) :
    (Builtin.append_ #[t, u] ty #[.slice base sLen sCap, x]).run P w =
      .ok (.slice (some ⟨w.heap.size, 0, none⟩) (sLen + m) (grownCap w (sLen + m) sCap e))
        (w.drew.alloc (.cells (olds.toArray ++ news.toArray ++ Builtin.zeroCells z.cells (grownCap w (sLen + m) sCap e - (sLen + m))) e)) := by
  have hn : ¬ (sLen + m ≤ sCap) := by omega
  have h63' : ¬ (9223372036854775807 < ((sLen : Int) + (m : Int))) := by omega
  have h48' : ¬ (281474976710656 < Builtin.nextslicecap (sLen + m) sCap * i.bytes) := by omega
  rcases hdu with rfl | ⟨e', rfl⟩
  · simp [Builtin.append_, run_underlying ht, run_underlying hu, sizeOf, typeInfo, zeroValue, hi, hz, hm, hn, h63', h48', Question.forced, hf, ho, newRow, grownCap]
    congr 2
    apply Array.ext'
    simp [List.append_assoc]
  · simp [Builtin.append_, run_underlying ht, run_underlying hu, sizeOf, typeInfo, zeroValue, hi, hz, hm, hn, h63', h48', Question.forced, hf, ho, newRow, grownCap]
    congr 2
    apply Array.ext'
    simp [List.append_assoc]
end
end Go.Abs

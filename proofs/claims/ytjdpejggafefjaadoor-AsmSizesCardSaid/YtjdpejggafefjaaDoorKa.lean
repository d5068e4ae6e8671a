/- Own small program logic, part a: values. Pure operations as functions on values, their compilation out of the model's operations, and that they agree with the model's semantics. -/
import Derived.WalkKit
import Derived.KernelRfl
namespace Go.Kx
set_option linter.unusedVariables false
set_option linter.unusedSimpArgs false
open Go

abbrev Heap := Array Obj
abbrev Env := Nat → Value
def Env.set (ρ : Env) (d : Nat) (v : Value) : Env := fun i => if i = d then v else ρ i
def Env.put (ρ : Env) (d : Option Nat) (v : Value) : Env := match d with | some d => ρ.set d v | none => ρ
def ev (ρ : Env) : Operand → Value
  | .tmp t => ρ t
  | .const v => v
  | .global g => .pointer (some ⟨g, 0, none⟩)
  | .func f => .func (.func f) #[] #[]

/-- The cell of a heap. -/
def cellG (g : Nat → Option Obj) (b off : Nat) : Option Value :=
  match g b with
  | some (.cells c _ _) => c[off]?
  | _ => none
def hp (h : Heap) : Nat → Option Obj := fun b => h[b]?
def cellsG (g : Nat → Option Obj) (b off : Nat) : Nat → Option (List Value)
  | 0 => some []
  | n + 1 => match cellG g b off with
    | none => none
    | some v => (cellsG g b (off + 1) n).map (v :: ·)

/-- Kinds of cells that are compared by what is in them. -/
inductive CK where
  | bool | int (k : IntKind) | float (k : FloatKind) | complex (k : FloatKind) | string
  deriving DecidableEq, Repr

inductive PF where
  | mov | pick
  | bin (op : BinOp)
  | eqb (neg : Bool)
  | eqn (neg : Bool) (kd : Nat)
  | eqs (neg : Bool) (l : List CK)
  | not | neg | cpl
  | toInt (k : IntKind)
  | intF (k : FloatKind)
  | fInt (k : IntKind)
  | strId
  | fld (off : Nat) (n : Option Nat)
  | bld (zero : List Value) (places : List (Nat × Nat))
  | len (str : Bool) | cap
  | ixa (sz : Nat)
  | ixaA (n sz : Nat)
  | ixv (n sz : Nat) (agg : Option Nat)
  | ixs
  | fla (off : Nat)
  | nilc
  | slc (sz : Nat) (lo hi : Bool)
  | slcA (n sz : Nat) (lo hi : Bool)
  | sls (lo hi : Bool)
  | minmax (mx : Bool)
  | mkf (fn : Fn) (n : Nat)
  | cpx (k : FloatKind) | re | im
  | ext (i : Nat)
  | mkif (t : TypeId)
  deriving Inhabited

def cmpI (op : BinOp) (x y : Int) : Option Bool :=
  match op with
  | .eql => some (x == y) | .neq => some (x != y) | .lss => some (decide (x < y)) | .leq => some (decide (x ≤ y))
  | .gtr => some (decide (x > y)) | .geq => some (decide (x ≥ y)) | _ => none
def binI (op : BinOp) (k : IntKind) (x y : Int) : Option Value :=
  match op with
  | .add => some (.int k (k.wrap (x + y)))
  | .sub => some (.int k (k.wrap (x - y)))
  | .mul => some (.int k (k.wrap (x * y)))
  | .quo => if y = 0 then none else some (.int k (k.wrap (x.tdiv y)))
  | .rem => if y = 0 then none else some (.int k (x.tmod y))
  | .and => some (.int k (k.wrap (BitVec.ofInt k.bits x &&& BitVec.ofInt k.bits y).toNat))
  | .or => some (.int k (k.wrap (BitVec.ofInt k.bits x ||| BitVec.ofInt k.bits y).toNat))
  | .xor => some (.int k (k.wrap (BitVec.ofInt k.bits x ^^^ BitVec.ofInt k.bits y).toNat))
  | .andNot => some (.int k (k.wrap (BitVec.ofInt k.bits x &&& ~~~(BitVec.ofInt k.bits y)).toNat))
  | .shl | .shr => none
  | op => (cmpI op x y).map .bool
def shI (op : BinOp) (k : IntKind) (x y : Int) : Option Value :=
  if y < 0 then none else
  match op with
  | .shl => some (.int k (k.wrap (x * 2 ^ (min y.toNat k.bits))))
  | .shr => some (.int k (x.fdiv (2 ^ (min y.toNat k.bits))))
  | _ => none
def binF (op : BinOp) (k : FloatKind) (x y : Nat) : Option Value :=
  let c := k.format.order x y
  match op with
  | .eql => some (.bool (c == some .eq))
  | .neq => some (.bool (c != some .eq))
  | .lss => some (.bool (c == some .lt))
  | .leq => some (.bool (c == some .lt || c == some .eq))
  | .gtr => some (.bool (c == some .gt))
  | .geq => some (.bool (c == some .gt || c == some .eq))
  | .add => (k.format.add x y).map (.float k)
  | .sub => (k.format.sub x y).map (.float k)
  | .mul => (k.format.mul x y).map (.float k)
  | .quo => (k.format.div x y).map (.float k)
  | _ => none
def binC (op : BinOp) (k : FloatKind) (xr xi yr yi : Nat) : Option Value :=
  let c := (k.format.order xr yr == some .eq) && (k.format.order xi yi == some .eq)
  match op with
  | .eql => some (.bool c)
  | .neq => some (.bool (!c))
  | .add => match k.format.add xr yr, k.format.add xi yi with | some a, some b => some (.complex k a b) | _, _ => none
  | .sub => match k.format.sub xr yr, k.format.sub xi yi with | some a, some b => some (.complex k a b) | _, _ => none
  | _ => none
def binS (op : BinOp) (x y : ByteArray) : Option Value :=
  match op with
  | .add => if ((x.size + y.size : Nat) : Int) > IntKind.i64.max then none else some (.string (x ++ y))
  | .eql => some (.bool (x.toList == y.toList))
  | .neq => some (.bool (!(x.toList == y.toList)))
  | .lss => some (.bool (Op.bytesLess x.toList y.toList))
  | .leq => some (.bool (Op.bytesLess x.toList y.toList || x.toList == y.toList))
  | .gtr => some (.bool (!(Op.bytesLess x.toList y.toList || x.toList == y.toList)))
  | .geq => some (.bool (!(Op.bytesLess x.toList y.toList)))
  | _ => none
def isSh : BinOp → Bool
  | .shl | .shr => true
  | _ => false
def binV (op : BinOp) (x y : Value) : Option Value :=
  match x, y with
  | .int k a, .int k' b => if isSh op then shI op k a b else if k = k' then binI op k a b else none
  | .float k a, .float k' b => if k = k' then binF op k a b else none
  | .complex k a b, .complex k' c d => if k = k' then binC op k a b c d else none
  | .string a, .string b => binS op a b
  | _, _ => none
/-- nil or not: of a pointer (0), a slice (1), a function (2), a map (3), an interface value (4). -/
def isNil (kd : Nat) (v : Value) : Option Bool :=
  match kd, v with
  | 0, .pointer a => some a.isNone
  | 1, .slice a _ _ => some a.isNone
  | 2, .nilFunc => some true
  | 2, .func _ _ _ => some false
  | 3, .map a => some a.isNone
  | 4, .nilIface => some true
  | 4, .iface _ _ => some false
  | _, _ => none
def eqC (k : CK) (x y : Value) : Option Bool :=
  match k, x, y with
  | .bool, .bool a, .bool b => some (a == b)
  | .int _, .int j a, .int j' b => if j = j' then some (a == b) else none
  | .float _, .float j a, .float j' b => if j = j' then some (Op.floatEq j a b) else none
  | .complex _, .complex j a b, .complex j' c d => if j = j' then some (Op.floatEq j a c && Op.floatEq j b d) else none
  | .string, .string a, .string b => some (a == b)
  | _, _, _ => none
def eqCs : List CK → List Value → List Value → Option Bool
  | [], _, _ => some true
  | k :: ks, x :: xs, y :: ys => match eqC k x y with
    | some true => eqCs ks xs ys
    | some false => some false
    | none => none
  | _, _, _ => none
def subL (l : List Value) (off n : Nat) : List Value := (l.drop off).take n
def setAt : List Value → Nat → List Value → List Value
  | cs, _, [] => cs
  | cs, off, v :: vs => setAt (cs.set off v) (off + 1) vs
def fillL : List Value → List (Nat × Nat) → List Value → Option (List Value)
  | cs, [], [] => some cs
  | cs, (off, sz) :: ps, v :: vs => if v.cells.size = sz ∧ off + sz ≤ cs.length then fillL (setAt cs off v.cells.toList) ps vs else none
  | _, _, _ => none
def bound (y : Nat) : Value → Option Nat
  | .int _ i => if 0 ≤ i ∧ i ≤ y then some i.toNat else none
  | _ => none
def loHi (lo hi : Bool) (len cap : Nat) (xs : List Value) : Option (Nat × Nat) :=
  match lo, hi, xs with
  | false, false, [] => some (0, len)
  | false, true, [b] => (bound cap b).map ((0, ·))
  | true, false, [a] => (bound len a).map ((·, len))
  | true, true, [a, b] => (bound cap b).bind fun h => (bound h a).map ((·, h))
  | _, _, _ => none
def mm (mx : Bool) (x y : Value) : Option Value :=
  match x, y with
  | .int k a, .int _ b => some (.int k (if mx then (if b > a then b else a) else (if b < a then b else a)))
  | _, _ => none
def mms (mx : Bool) : Value → List Value → Option Value
  | x, [] => some x
  | x, y :: ys => (mm mx x y).bind fun z => mms mx z ys

/-- What a pure operation gives; none where it would panic or is not covered. -/
def PF.val : PF → List Value → Option Value
  | .mov, [x] => some x
  | .pick, [.bool c, a, b] => some (if c then a else b)
  | .bin op, [x, y] => binV op x y
  | .eqb ng, [.bool a, .bool b] => some (.bool (if ng then !(a == b) else a == b))
  | .eqn ng kd, [x] => (isNil kd x).map fun t => .bool (if ng then !t else t)
  | .eqs ng ks, [.agg xs, .agg ys] => if xs.size = ks.length ∧ ys.size = ks.length then (eqCs ks xs.toList ys.toList).map fun t => .bool (if ng then !t else t) else none
  | .not, [.bool b] => some (.bool !b)
  | .neg, [.int k n] => some (.int k (k.wrap (0 - n)))
  | .cpl, [.int k n] => some (.int k (k.wrap (BitVec.ofInt k.bits (if k.signed then -1 else k.max) ^^^ BitVec.ofInt k.bits n).toNat))
  | .toInt k, [.int _ n] => some (.int k (k.wrap n))
  | .intF k, [.int _ n] => some (.float k (k.nearest n))
  | .fInt k, [.float s b] => match (s.decode b).toInt .zero with
    | some n => if k.min ≤ n ∧ n ≤ k.max then some (.int k n) else none
    | none => none
  | .strId, [.string s] => some (.string s)
  | .fld off none, [.agg cs] => cs.toList[off]?
  | .fld off (some n), [.agg cs] => some (.agg (subL cs.toList off n).toArray)
  | .bld z ps, vs => (fillL z ps vs).map fun l => .agg l.toArray
  | .len false, [.slice _ n _] => some (.int .i64 n)
  | .len true, [.string s] => some (.int .i64 s.size)
  | .cap, [.slice _ _ c] => some (.int .i64 c)
  | .ixa sz, [.slice (some a) n _, .int _ i] => if 0 ≤ i ∧ i < n then some (.pointer (some (a.add (i.toNat * sz)))) else none
  | .ixaA n sz, [.pointer (some a), .int _ i] => if 0 ≤ i ∧ i < n then some (.pointer (some (a.add (i.toNat * sz)))) else none
  | .ixv n sz none, [.agg cs, .int _ i] => if 0 ≤ i ∧ i < n then cs.toList[i.toNat * sz]? else none
  | .ixv n sz (some m), [.agg cs, .int _ i] => if 0 ≤ i ∧ i < n then some (.agg (subL cs.toList (i.toNat * sz) m).toArray) else none
  | .ixs, [.string s, .int _ i] => if 0 ≤ i then (s.data.toList[i.toNat]?).map fun b => .int .u8 b.toNat else none
  | .fla off, [.pointer (some a)] => some (.pointer (some (a.add off)))
  | .nilc, [.pointer (some a)] => some (.pointer (some a))
  | .slc sz lo hi, .slice a n c :: xs => (loHi lo hi n c xs).map fun (l, h) => .slice (if c = l then a else a.map (·.add (l * sz))) (h - l) (c - l)
  | .slcA n sz lo hi, .pointer (some a) :: xs => (loHi lo hi n n xs).map fun (l, h) => .slice (some (if n = l then a else a.add (l * sz))) (h - l) (n - l)
  | .sls lo hi, .string s :: xs => (loHi lo hi s.size s.size xs).map fun (l, h) => .string (s.extract l h)
  | .minmax mx, x :: xs => mms mx x xs
  | .mkf fn n, xs => some (.func fn (xs.take n).toArray (xs.drop n).toArray)
  | .cpx _, [.float k a, .float k' b] => if k = k' then some (.complex k a b) else none
  | .re, [.complex k a _] => some (.float k a)
  | .im, [.complex k _ b] => some (.float k b)
  | .ext i, [.tuple vs] => vs.toList[i]?
  | .mkif t, [x] => some (.iface t x)
  | _, _ => none

end Go.Kx

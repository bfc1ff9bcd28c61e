/- Parts of the proof, one after another; what each part shows stands at its head. No conditions. -/
import Derived.Orders
import Derived.Deep.MidRow
import Derived.Laws.AppendOwn
import Derived.Laws.OwnMore
import Derived.Laws.BytesArg
import Derived.Laws.Append
set_option linter.all false

/- The abstract machine, 1: values, memory, instructions, their meaning. Slices that nobody writes to are lists; the rest of memory is objects by number. -/
namespace Go.Am

/-- Values. 'lst': a slice whose elements nobody writes; 'slc': a slice of an object; 'nil': a slice without room; 'ptr': a cell of an object; 'cptr': cells that nobody writes. -/
inductive V where
  | undef
  | bool (b : Bool)
  | int (k : IntKind) (n : Int)
  | str (s : ByteArray)
  | nil
  | lst (xs : List V)
  | slc (o off len room : Nat)
  | ptr (o i sub : Nat)
  | cptr (cs : List V)
  | nilp
  | map (m : Nat)
  | nilm
  | fn (f : FuncId) (caps : List V)
  | nilf
  | iface (t : TypeId) (v : V)
  | nili
  | agg (cs : List V)
  | tup (vs : List V)
  deriving Inhabited

def V.cells : V → List V
  | .agg cs => cs
  | v => [v]

/-- One cell's value. -/
def V.one : V → Bool
  | .undef | .agg _ | .tup _ => false
  | _ => true
/-- A value that can lie in memory. -/
def V.sane : V → Bool
  | .undef | .tup _ => false
  | .agg cs => cs.all V.one
  | _ => true

/-- A map's entry: key, value, when it was made. -/
structure En where
  key : V
  val : V
  born : Nat

/-- An object: a row of elements (each of sz cells), or a map. -/
inductive Ob where
  | arr (ty : TypeId) (sz : Nat) (xs : List V)
  | map (es : List En) (clock : Nat)

structure Heap where
  next : Nat
  obj : Nat → Option Ob
  wf : ∀ o, next ≤ o → obj o = none

namespace Heap

def alloc (h : Heap) (x : Ob) : Heap where
  next := h.next + 1
  obj := fun o => if o = h.next then some x else h.obj o
  wf := fun o ho => by
    rw [if_neg (by omega)]
    exact h.wf o (by omega)

def set (h : Heap) (p : Nat) (x : Ob) : Heap where
  next := h.next
  obj := fun o => if o = p then (h.obj p).map fun _ => x else h.obj o
  wf := fun o ho => by
    split
    · rename_i e
      subst e
      simp [h.wf o ho]
    · exact h.wf o ho

def kill (h : Heap) (p : Nat) : Heap where
  next := h.next
  obj := fun o => if o = p then none else h.obj o
  wf := fun o ho => by
    split
    · rfl
    · exact h.wf o ho

theorem lt_next {h : Heap} {o : Nat} {x : Ob} (e : h.obj o = some x) : o < h.next := by
  rcases Nat.lt_or_ge o h.next with l | l
  · exact l
  · rw [h.wf o l] at e
    cases e

end Heap

abbrev Tm := Nat → V
def upd (a : Tm) (d : Nat) (v : V) : Tm := fun t => if t = d then v else a t
def updO (a : Tm) : Option Nat → V → Tm
  | some d, v => upd a d v
  | none, _ => a

/-- An operand. -/
inductive Opd where
  | t (n : Nat)
  | c (v : V)
  | g (n : Nat)
  | f (n : FuncId)
  deriving Inhabited

def Opd.ev (G : Nat → V) (a : Tm) : Opd → V
  | .t n => a n
  | .c v => v
  | .g n => G n
  | .f n => .fn n []

/-- How values of a type are held against one another. -/
inductive EqK where
  | bool | ptr | map | func | ints (n : Nat)
  deriving Inhabited, DecidableEq

inductive I where
  | mov (x : Opd)
  | pick (c a b : Opd)
  | box (ty sz : Nat) (x : Opd)
  | build (zero : List V) (parts : List (Nat × Nat × Opd))
  | bslice (ty sz : Nat) (zero : V) (len : Nat) (parts : List (Nat × Opd))
  | load (agg : Bool) (n : Nat) (x : Opd)
  | store (n : Nat) (x v : Opd)
  | nilck (x : Opd)
  | bin (op : BinOp) (x y : Opd)
  | eq (neg : Bool) (k : EqK) (x y : Opd)
  | un (op : UnOp) (x : Opd)
  | conv (k : IntKind) (x : Opd)
  | b2s (x : Opd)
  | faddr (x : Opd) (off : Nat)
  | fld (agg : Bool) (n off : Nat) (x : Opd)
  | iaddr (sz : Nat) (x i : Opd)
  | iaddrA (len sz : Nat) (x i : Opd)
  | idxA (agg : Bool) (len sz : Nat) (x i : Opd)
  | slice (sz : Nat) (x : Opd) (lo hi mx : Option Opd)
  | mkslice (ty sz bytes : Nat) (z : V) (l c : Opd)
  | mkmap
  | lookup (kn : Option Nat) (z : V) (x k : Opd) (ok : Bool)
  | mupd (kn : Option Nat) (x k v : Opd)
  | mentry (kn : Option Nat) (z : V) (x k : Opd)
  | estore (x s v : Opd)
  | extract (x : Opd) (i : Nat)
  | len (x : Opd)
  | lenS (x : Opd)
  | lenM (x : Opd)
  | lenN (n : Nat)
  | append (ty sz bytes : Nat) (x y : Opd)
  | delete (kn : Option Nat) (x k : Opd)
  | minmax (mx : Bool) (x y : Opd)
  | mkfn (f : FuncId) (caps : List Opd)
  | mkiface (t : TypeId) (x : Opd)
  | isnil (neg : Bool) (x : Opd)
  | still (x : Opd)
  | clear (z : V) (x : Opd)
  | s2ap (n : Nat) (x : Opd)
  | idxS (x i : Opd)
  | stop
  | call (f : FuncId) (args : List Opd)
  | callv (x : Opd) (args : List Opd)
  deriving Inhabited

/-- An instruction: where its result goes, under which guard it is done, what it does; what must read as before behind it. -/
structure Ins where
  dst : Option Nat
  g : Option (Nat × Bool)
  op : I
  rr : List (Option (Nat × Bool) × Nat × I)
  deriving Inhabited

/-! ### what the instructions do -/

def loadV (h : Heap) (agg : Bool) (n : Nat) : V → Option V
  | .ptr o i sub =>
    match h.obj o with
    | some (.arr _ _ xs) =>
      match xs[i]? with
      | some x => if agg then (if sub + n ≤ x.cells.length then some (.agg ((x.cells.drop sub).take n)) else none) else x.cells[sub]?
      | none => none
    | _ => none
  | .cptr cs => if agg then (if n ≤ cs.length then some (.agg (cs.take n)) else none) else cs[0]?
  | _ => none

def splice (cs : List V) (i : Nat) : List V → List V
  | [] => cs
  | v :: vs => splice (cs.set i v) (i + 1) vs

def setCells (x : V) (sub : Nat) (vs : List V) : V :=
  match x with
  | .agg cs => .agg (splice cs sub vs)
  | x => (splice [x] sub vs).getD 0 x

def storeV (h : Heap) (n : Nat) (p v : V) : Option Heap :=
  match p with
  | .ptr o i sub =>
    match h.obj o with
    | some (.arr ty sz xs) =>
      match xs[i]? with
      | some x =>
        if v.cells.length = n ∧ sub + n ≤ x.cells.length ∧ v.sane = true then
          match x, v with
          | .agg _, _ => some (h.set o (.arr ty sz (xs.set i (setCells x sub v.cells))))
          | _, .agg _ => none
          | _, _ => some (h.set o (.arr ty sz (xs.set i v)))
        else none
      | none => none
    | _ => none
  | _ => none

/-- The elements of a slice. -/
def readL (h : Heap) : V → Option (List V)
  | .nil => some []
  | .lst xs => some xs
  | .slc o off len _ =>
    match h.obj o with
    | some (.arr _ _ xs) => if off + len ≤ xs.length then some ((xs.drop off).take len) else none
    | _ => none
  | _ => none

def lenV : V → Option Nat
  | .nil => some 0
  | .lst xs => some xs.length
  | .slc _ _ len _ => some len
  | _ => none
def lenS : V → Option Nat
  | .str s => some s.size
  | _ => none

def binV (op : BinOp) (x y : V) : Option V :=
  match op, x, y with
  | .shl, .int k a, .int _ b => if b < 0 then none else some (.int k (k.wrap (a * 2 ^ min b.toNat k.bits)))
  | .shr, .int k a, .int _ b => if b < 0 then none else some (.int k (a.fdiv (2 ^ min b.toNat k.bits)))
  | .add, .int k a, .int k' b => if k = k' then some (.int k (k.wrap (a + b))) else none
  | .sub, .int k a, .int k' b => if k = k' then some (.int k (k.wrap (a - b))) else none
  | .mul, .int k a, .int k' b => if k = k' then some (.int k (k.wrap (a * b))) else none
  | .quo, .int k a, .int k' b => if k = k' ∧ b ≠ 0 then some (.int k (k.wrap (a.tdiv b))) else none
  | .rem, .int k a, .int k' b => if k = k' ∧ b ≠ 0 then some (.int k (a.tmod b)) else none
  | .and, .int k a, .int k' b => if k = k' then some (.int k (k.wrap (BitVec.ofInt k.bits a &&& BitVec.ofInt k.bits b).toNat)) else none
  | .or, .int k a, .int k' b => if k = k' then some (.int k (k.wrap (BitVec.ofInt k.bits a ||| BitVec.ofInt k.bits b).toNat)) else none
  | .xor, .int k a, .int k' b => if k = k' then some (.int k (k.wrap (BitVec.ofInt k.bits a ^^^ BitVec.ofInt k.bits b).toNat)) else none
  | .andNot, .int k a, .int k' b => if k = k' then some (.int k (k.wrap (BitVec.ofInt k.bits a &&& ~~~BitVec.ofInt k.bits b).toNat)) else none
  | .eql, .int k a, .int k' b => if k = k' then some (.bool (a == b)) else none
  | .neq, .int k a, .int k' b => if k = k' then some (.bool (a != b)) else none
  | .lss, .int k a, .int k' b => if k = k' then some (.bool (decide (a < b))) else none
  | .leq, .int k a, .int k' b => if k = k' then some (.bool (decide (a ≤ b))) else none
  | .gtr, .int k a, .int k' b => if k = k' then some (.bool (decide (a > b))) else none
  | .geq, .int k a, .int k' b => if k = k' then some (.bool (decide (a ≥ b))) else none
  | .eql, .str a, .str b => some (.bool (a.toList == b.toList))
  | .neq, .str a, .str b => some (.bool (!(a.toList == b.toList)))
  | _, _, _ => none

/-- Two values that are whole numbers, or rows of these. -/
def eqInt : V → V → Option Bool
  | .int k a, .int k' b => if k = k' then some (a == b) else none
  | _, _ => none
def eqInts : List V → List V → Option Bool
  | [], [] => some true
  | x :: xs, y :: ys =>
    match eqInt x y, eqInts xs ys with
    | some b, some c => some (b && c)
    | _, _ => none
  | _, _ => none

def eqV (k : EqK) (x y : V) : Option Bool :=
  match k, x, y with
  | .bool, .bool a, .bool b => some (a == b)
  | .ptr, .nilp, .nilp => some true
  | .ptr, .nilp, .ptr _ _ _ => some false
  | .ptr, .nilp, .cptr _ => some false
  | .ptr, .ptr _ _ _, .nilp => some false
  | .ptr, .cptr _, .nilp => some false
  | .map, .nilm, .nilm => some true
  | .map, .nilm, .map _ => some false
  | .map, .map _, .nilm => some false
  | .func, .nilf, .nilf => some true
  | .func, .nilf, .fn _ _ => some false
  | .func, .fn _ _, .nilf => some false
  | .ints n, .agg xs, .agg ys => if xs.length = n then eqInts xs ys else none
  | _, _, _ => none

def unV (op : UnOp) (x : V) : Option V :=
  match op, x with
  | .neg, .int k n => some (.int k (k.wrap (0 - n)))
  | .xor, .int k n => some (.int k (k.wrap (BitVec.ofInt k.bits (if k.signed then -1 else k.max) ^^^ BitVec.ofInt k.bits n).toNat))
  | .not, .bool b => some (.bool (!b))
  | _, _ => none

def fillV (cells : List V) : List (Nat × Nat × V) → Option (List V)
  | [] => some cells
  | (off, size, v) :: rest => if v.cells.length = size ∧ off + size ≤ cells.length ∧ v.sane = true then fillV (splice cells off v.cells) rest else none

def setParts (sz : Nat) (xs : List V) : List (Nat × V) → Option (List V)
  | [] => some xs
  | (i, v) :: rest => if i < xs.length ∧ v.cells.length = sz ∧ v.sane = true then setParts sz (xs.set i v) rest else none

/-- A key: a whole number, or a row of so many. -/
def keyEq (kn : Option Nat) (x y : V) : Option Bool :=
  match kn, x, y with
  | some n, .agg xs, .agg ys => if xs.length = n then eqInts xs ys else none
  | none, x, y => eqInt x y
  | _, _, _ => none
def isKey (kn : Option Nat) (x : V) : Bool := keyEq kn x x == some true
def findV (kn : Option Nat) (k : V) : List En → Option (Option (V × Nat))
  | [] => some none
  | e :: es =>
    match keyEq kn k e.key with
    | some true => some (some (e.val, e.born))
    | some false => findV kn k es
    | none => none
/-- Where the key is: its value becomes v (none: it stays). -/
def putAt (kn : Option Nat) (k : V) (v : Option V) : List En → List En
  | [] => []
  | e :: es => if keyEq kn k e.key = some true then ⟨k, v.getD e.val, e.born⟩ :: es else e :: putAt kn k v es
def dropV (kn : Option Nat) (k : V) : List En → List En
  | [] => []
  | e :: es => if keyEq kn k e.key = some true then es else e :: dropV kn k es
/-- The entry under a key, if the key is one. -/
def findK (kn : Option Nat) (k : V) (es : List En) : Option (Option (V × Nat)) := if isKey kn k = true then findV kn k es else none
def putBorn (n : Nat) (v : V) : List En → Option (List En)
  | [] => none
  | e :: es => if e.born = n then some ({ e with val := v } :: es) else (putBorn n v es).map (e :: ·)

def bytesOf : List V → Option (List UInt8)
  | [] => some []
  | .int .u8 n :: vs => (bytesOf vs).map (UInt8.ofNat n.toNat :: ·)
  | _ :: _ => none

def idx (i : V) : Option Nat :=
  match i with
  | .int _ n => if 0 ≤ n then some n.toNat else none
  | _ => none

def lookV (h : Heap) (kn : Option Nat) (x k : V) : Option (Option (V × Nat)) :=
  match x with
  | .nilm => findK kn k []
  | .map m =>
    match h.obj m with
    | some (.map es _) => findK kn k es
    | _ => none
  | _ => none

/-- What a look-up gives. -/
def lookR (ok : Bool) (z : V) : Option (V × Nat) → V
  | some (v, _) => if ok then .tup [v, .bool true] else v
  | none => if ok then .tup [z, .bool false] else z

/-- The memory after m[k] = v; after m[k] is reached for writing; after delete. -/
def updMap (h : Heap) (m : Nat) (kn : Option Nat) (k v : V) (es : List En) (clock : Nat) : Option (V × Nat) → Heap
  | some _ => h.set m (.map (putAt kn k (some v) es) clock)
  | none => h.set m (.map (es ++ [⟨k, v, clock⟩]) (clock + 1))
def touchMap (h : Heap) (m : Nat) (kn : Option Nat) (k z : V) (es : List En) (clock : Nat) : Option (V × Nat) → Heap
  | some _ => h.set m (.map (putAt kn k none es) clock)
  | none => h.set m (.map (es ++ [⟨k, z, clock⟩]) (clock + 1))
def entMap (z : V) (clock : Nat) : Option (V × Nat) → V
  | some (v, n) => .tup [v, .int .i64 n]
  | none => .tup [z, .int .i64 clock]
def outMap (h : Heap) (m : Nat) (kn : Option Nat) (k : V) (es : List En) (clock : Nat) : Option (V × Nat) → Heap
  | some _ => h.set m (.map (dropV kn k es) clock)
  | none => h

/-- Have a row's elements so many cells? (All have as many as the first one.) -/
def szOk (sz : Nat) : List V → Bool
  | [] => true
  | y :: _ => y.cells.length == sz

/-- x[lo:hi:mx]. What lies empty is a list; past the length only what is known to be there. -/
def sliceV (h : Heap) (sz : Nat) (x : V) (lo hi mx : Option V) : Option V :=
  match x with
  | .nil =>
    match (lo.map idx).getD (some 0), (hi.map idx).getD (some 0), (mx.map idx).getD (some 0) with
    | some 0, some 0, some 0 => some .nil
    | _, _, _ => none
  | .lst xs =>
    match (lo.map idx).getD (some 0), (hi.map idx).getD (some xs.length), (mx.map idx).getD (some xs.length) with
    | some l, some n, some m => if l ≤ n ∧ n ≤ m ∧ m ≤ xs.length ∧ szOk sz xs = true then some (if mx.isSome ∧ m = l then .nil else .lst ((xs.take n).drop l)) else none
    | _, _, _ => none
  | .slc o off len room =>
    match (lo.map idx).getD (some 0), (hi.map idx).getD (some len), (mx.map idx).getD (some room) with
    | some l, some n, some m =>
      match h.obj o with
      | some (.arr _ sz' _) =>
        if l ≤ n ∧ n ≤ m ∧ m ≤ room ∧ sz' = sz then
          some (if m = l then (if mx.isSome then .nil else .lst []) else .slc o (off + l) (n - l) (m - l))
        else none
      | _ => none
    | _, _, _ => none
  | _ => none

def natOf : V → Option Nat
  | .int .i64 n => if 0 ≤ n ∧ n ≤ 9223372036854775807 then some n.toNat else none
  | _ => none

def appendV (h : Heap) (ty sz bytes : Nat) (x y : V) : Option (V × Heap) :=
  match readL h y, x with
  | some ys, .nil =>
    if ys.length * bytes ≤ 70368744177664 ∧ ys.length ≤ 70368744177664 ∧ szOk sz ys = true then
      (if ys = [] then some (.nil, h) else some (.slc h.next 0 ys.length ys.length, h.alloc (.arr ty sz ys)))
    else none
  | some ys, .slc o 0 len room =>
    match h.obj o with
    | some (.arr ty' sz' xs) =>
      if ty' = ty ∧ sz' = sz ∧ (len + ys.length) * bytes ≤ 70368744177664 ∧ len + ys.length ≤ 70368744177664 ∧ szOk sz ys = true ∧ len ≤ xs.length then
        if len + ys.length ≤ room ∧ len + ys.length ≤ xs.length then
          some (.slc o 0 (len + ys.length) room, h.set o (.arr ty sz (xs.take len ++ ys ++ xs.drop (len + ys.length))))
        else if len = xs.length then
          some (.slc h.next 0 (len + ys.length) (len + ys.length), (h.kill o).alloc (.arr ty sz (xs ++ ys)))
        else none
      else none
    | _ => none
  | _, _ => none

/-- A slice that nobody writes any more, as a list: its object is gone. -/
def freezeV (h : Heap) : V → Option (V × Heap)
  | .nil => some (.lst [], h)
  | .lst xs => some (.lst xs, h)
  | .slc o off len _ =>
    match h.obj o with
    | some (.arr _ _ xs) => if off + len ≤ xs.length then some (.lst ((xs.drop off).take len), h.kill o) else none
    | _ => none
  | _ => none

def stepI (G : Nat → V) (a : Tm) (h : Heap) : I → Option (V × Heap)
  | .mov x => some (x.ev G a, h)
  | .pick c x y =>
    match c.ev G a with
    | .bool true => some (x.ev G a, h)
    | .bool false => some (y.ev G a, h)
    | _ => none
  | .box ty sz x => if (x.ev G a).cells.length = sz ∧ (x.ev G a).sane = true then some (.ptr h.next 0 0, h.alloc (.arr ty sz [x.ev G a])) else none
  | .build z parts => (fillV z (parts.map fun p => (p.1, p.2.1, p.2.2.ev G a))).map fun cs => (.agg cs, h)
  | .bslice ty sz z len parts =>
    if z.cells.length = sz ∧ z.sane = true ∧ len * sz ≤ 16777216 then
      (setParts sz (List.replicate len z) (parts.map fun p => (p.1, p.2.ev G a))).map fun xs => (.slc h.next 0 len len, h.alloc (.arr ty sz xs))
    else none
  | .load agg n x => (loadV h agg n (x.ev G a)).map fun v => (v, h)
  | .store n x v => (storeV h n (x.ev G a) (v.ev G a)).map fun h' => (.undef, h')
  | .nilck x =>
    match x.ev G a with
    | .ptr o i s => some (.ptr o i s, h)
    | .cptr cs => some (.cptr cs, h)
    | .fn f cs => some (.fn f cs, h)
    | _ => none
  | .bin op x y => (binV op (x.ev G a) (y.ev G a)).map fun v => (v, h)
  | .eq neg k x y => (eqV k (x.ev G a) (y.ev G a)).map fun b => (.bool (neg != b), h)
  | .un op x => (unV op (x.ev G a)).map fun v => (v, h)
  | .conv k x =>
    match x.ev G a with
    | .int _ n => some (.int k (k.wrap n), h)
    | _ => none
  | .b2s x => ((readL h (x.ev G a)).bind bytesOf).map fun bs => (.str ⟨bs.toArray⟩, h)
  | .faddr x off =>
    match x.ev G a with
    | .ptr o i s => some (.ptr o i (s + off), h)
    | .cptr cs => some (.cptr (cs.drop off), h)
    | _ => none
  | .fld agg n off x =>
    match x.ev G a with
    | .agg cs => if agg then (if off + n ≤ cs.length then some (.agg ((cs.drop off).take n), h) else none) else (cs[off]?).map fun v => (v, h)
    | _ => none
  | .iaddr sz x i =>
    match idx (i.ev G a), x.ev G a with
    | some n, .lst xs =>
      match xs[n]? with
      | some e => if e.cells.length = sz then some (.cptr e.cells, h) else none
      | none => none
    | some n, .slc o off len _ =>
      match h.obj o with
      | some (.arr _ sz' xs) => if sz' = sz ∧ n < len ∧ off + n < xs.length then some (.ptr o (off + n) 0, h) else none
      | _ => none
    | _, _ => none
  | .iaddrA len sz x i =>
    match idx (i.ev G a), x.ev G a with
    | some n, .ptr o j s => if n < len then some (.ptr o j (s + n * sz), h) else none
    | some n, .cptr cs => if n < len then some (.cptr (cs.drop (n * sz)), h) else none
    | _, _ => none
  | .idxA agg len sz x i =>
    match idx (i.ev G a), x.ev G a with
    | some n, .agg cs =>
      if n < len then
        (if agg then (if n * sz + sz ≤ cs.length then some (.agg ((cs.drop (n * sz)).take sz), h) else none) else (cs[n * sz]?).map fun v => (v, h))
      else none
    | _, _ => none
  | .slice sz x lo hi mx => (sliceV h sz (x.ev G a) (lo.map (·.ev G a)) (hi.map (·.ev G a)) (mx.map (·.ev G a))).map fun v => (v, h)
  | .mkslice ty sz bytes z l c =>
    match natOf (l.ev G a), natOf (c.ev G a) with
    | some n, some m => if n ≤ m ∧ m * bytes ≤ 70368744177664 ∧ z.cells.length = sz ∧ z.sane = true then some (.slc h.next 0 n n, h.alloc (.arr ty sz (List.replicate n z))) else none
    | _, _ => none
  | .mkmap => some (.map h.next, h.alloc (.map [] 0))
  | .lookup kn z x k ok =>
    (lookV h kn (x.ev G a) (k.ev G a)).map fun r => (lookR ok z r, h)
  | .mupd kn x k v =>
    match x.ev G a with
    | .map m =>
      match h.obj m with
      | some (.map es clock) =>
        match findK kn (k.ev G a) es with
        | some q => some (.undef, updMap h m kn (k.ev G a) (v.ev G a) es clock q)
        | none => none
      | _ => none
    | _ => none
  | .mentry kn z x k =>
    match x.ev G a with
    | .map m =>
      match h.obj m with
      | some (.map es clock) =>
        match findK kn (k.ev G a) es with
        | some q => some (entMap z clock q, touchMap h m kn (k.ev G a) z es clock q)
        | none => none
      | _ => none
    | _ => none
  | .estore x s v =>
    match x.ev G a, s.ev G a with
    | .map m, .int .i64 n =>
      match h.obj m with
      | some (.map es clock) => if 0 ≤ n then (putBorn n.toNat (v.ev G a) es).map fun es' => (.undef, h.set m (.map es' clock)) else none
      | _ => none
    | _, _ => none
  | .extract x i =>
    match x.ev G a with
    | .tup vs => (vs[i]?).map fun v => (v, h)
    | _ => none
  | .len x => (lenV (x.ev G a)).map fun (n : Nat) => (.int .i64 (n : Int), h)
  | .lenS x => (lenS (x.ev G a)).map fun (n : Nat) => (.int .i64 (n : Int), h)
  | .lenM x =>
    match x.ev G a with
    | .nilm => some (.int .i64 0, h)
    | .map m =>
      match h.obj m with
      | some (.map es _) => some (.int .i64 es.length, h)
      | _ => none
    | _ => none
  | .lenN n => some (.int .i64 n, h)
  | .append ty sz bytes x y => appendV h ty sz bytes (x.ev G a) (y.ev G a)
  | .delete kn x k =>
    match x.ev G a with
    | .map m =>
      match h.obj m with
      | some (.map es clock) =>
        match findK kn (k.ev G a) es with
        | some q => some (.tup [], outMap h m kn (k.ev G a) es clock q)
        | none => none
      | _ => none
    | _ => none
  | .minmax mx x y =>
    match x.ev G a, y.ev G a with
    | .int k m, .int k' n => if k = k' then some (.int k (if mx then (if n > m then n else m) else (if n < m then n else m)), h) else none
    | _, _ => none
  | .mkfn f caps => some (.fn f (caps.map (·.ev G a)), h)
  | .mkiface t x => some (.iface t (x.ev G a), h)
  | .still x =>
    match x.ev G a with
    | .slc o off len room => freezeV h (.slc o off len room)
    | _ => none
  | .clear z x =>
    match x.ev G a with
    | .nil => some (.tup [], h)
    | .lst [] => some (.tup [], h)
    | .slc _ _ 0 _ => some (.tup [], h)
    | .slc o off len _ =>
      match h.obj o with
      | some (.arr ty sz xs) => if 0 < len ∧ off + len ≤ xs.length ∧ z.cells.length = sz then some (.tup [], h.set o (.arr ty sz (xs.take off ++ List.replicate len z ++ xs.drop (off + len)))) else none
      | _ => none
    | _ => none
  | .s2ap n x =>
    match x.ev G a with
    | .lst xs => if 0 < n ∧ n ≤ xs.length ∧ xs.all (fun v => v.cells.length == 1) then some (.cptr (xs.flatMap V.cells), h) else none
    | _ => none
  | .idxS x i =>
    match x.ev G a, idx (i.ev G a) with
    | .str s, some n => if e : n < s.size then some (.int .u8 (s[n]'e).toNat, h) else none
    | _, _ => none
  | .isnil _ _ => none
  | .stop => none
  | .call _ _ => none
  | .callv _ _ => none

def rrOk (G : Nat → V) (a : Tm) (h : Heap) : List (Option (Nat × Bool) × Nat × I) → Prop
  | [] => True
  | (g, d, i) :: rs =>
    (match g with
      | none => stepI G a h i = some (a d, h)
      | some (t, b) => a t = .bool b → stepI G a h i = some (a d, h)) ∧ rrOk G a h rs

def putD (G : Nat → V) (fz : List Nat) (i : Ins) (K : Tm → Heap → Prop) (a : Tm) (v : V) (h : Heap) : Prop :=
  match i.dst with
  | none => rrOk G a h i.rr ∧ K a h
  | some d =>
    if fz.contains d then
      match freezeV h v with
      | some (v', h') => rrOk G a h' i.rr ∧ K (upd a d v') h'
      | none => False
    else rrOk G a h i.rr ∧ K (upd a d v) h

def wpOp1 (C : FuncId → List V → Heap → (V → Heap → Prop) → Prop) (G : Nat → V) (fz : List Nat) (i : Ins) (K : Tm → Heap → Prop) (a : Tm) (h : Heap) : Prop :=
  match i.op with
  | .call f args => C f (args.map (·.ev G a)) h (putD G fz i K a)
  | .callv x args =>
    match x.ev G a with
    | .fn f caps => C f (args.map (·.ev G a) ++ caps) h (putD G fz i K a)
    | _ => False
  | .isnil neg x =>
    match x.ev G a with
    | .nil => ∀ b, putD G fz i K a (.bool b) h
    | .lst [] => ∀ b, putD G fz i K a (.bool b) h
    | .lst (_ :: _) => putD G fz i K a (.bool neg) h
    | .slc _ _ _ _ => putD G fz i K a (.bool neg) h
    | _ => False
  | op =>
    match stepI G a h op with
    | some (v, h') => putD G fz i K a v h'
    | none => False

/-- Is what stands under a guard done? What was not done stands for no yes or no. -/
def want (b : Bool) : V → Option Bool
  | .bool c => some (c == b)
  | .tup [] => some false
  | _ => none

def wpI (C : FuncId → List V → Heap → (V → Heap → Prop) → Prop) (G : Nat → V) (fz : List Nat) (i : Ins) (K : Tm → Heap → Prop) (a : Tm) (h : Heap) : Prop :=
  match i.g with
  | none => wpOp1 C G fz i K a h
  | some (t, b) =>
    match want b (a t) with
    | some true => wpOp1 C G fz i K a h
    | some false => K (updO a i.dst (.tup [])) h
    | none => False

def wpIs (C : FuncId → List V → Heap → (V → Heap → Prop) → Prop) (G : Nat → V) (fz : List Nat) : List Ins → (Tm → Heap → Prop) → Tm → Heap → Prop
  | [], K => K
  | i :: is, K => wpI C G fz i (wpIs C G fz is K)

/-- A statement whose order is open: what acts may come in one order or another. -/
inductive Tr where
  | done
  | pre (is : List Ins) (t : Tr)
  | act (i : Ins) (t : Tr)
  | both (x y : Tr)
  deriving Inhabited

def wpT (C : FuncId → List V → Heap → (V → Heap → Prop) → Prop) (G : Nat → V) (fz : List Nat) : Tr → (Tm → Heap → Prop) → Tm → Heap → Prop
  | .done, K, a, h => K a h
  | .pre is t, K, a, h => wpIs C G [] is (wpT C G fz t K) a h
  | .act i t, K, a, h => wpI C G fz i (wpT C G fz t K) a h
  | .both x y, K, a, h => wpT C G fz x K a h ∧ wpT C G fz y K a h

/-! ### code -/

inductive Ex where
  | normal
  | exit (id : Nat)
  | ret
  deriving DecidableEq

inductive Cd where
  | skip
  | region (is : List Ins)
  | draw (t : Tr)
  | seq (a b : Cd)
  | cond (c : Opd) (a b : Cd)
  | block (id : Nat) (b : Cd)
  | loop (b : Cd)
  | exit (id : Nat)
  | ret
  deriving Inhabited

def thenQ (N : Tm → Heap → Prop) (Q : Ex → Tm → Heap → Prop) : Ex → Tm → Heap → Prop
  | .normal, a, h => N a h
  | e, a, h => Q e a h

def blockQ (id : Nat) (Q : Ex → Tm → Heap → Prop) : Ex → Tm → Heap → Prop
  | .exit id', a, h => if id' = id then Q .normal a h else Q (.exit id') a h
  | e, a, h => Q e a h

def wpC (C : FuncId → List V → Heap → (V → Heap → Prop) → Prop) (G : Nat → V) (fz : List Nat) : Cd → (Ex → Tm → Heap → Prop) → Tm → Heap → Prop
  | .skip, Q, a, h => Q .normal a h
  | .region is, Q, a, h => wpIs C G fz is (Q .normal) a h
  | .draw t, Q, a, h => wpT C G fz t (Q .normal) a h
  | .seq x y, Q, a, h => wpC C G fz x (thenQ (wpC C G fz y Q) Q) a h
  | .cond c x y, Q, a, h =>
    match c.ev G a with
    | .bool b => (b = true → wpC C G fz x Q a h) ∧ (b = false → wpC C G fz y Q a h)
    | _ => False
  | .block id c, Q, a, h => wpC C G fz c (blockQ id Q) a h
  | .loop c, Q, a, h => ∃ J : Tm → Heap → Nat → Prop, (∃ n, J a h n) ∧ ∀ a h n, J a h n → wpC C G fz c (thenQ (fun a' h' => ∃ m, m < n ∧ J a' h' m) Q) a h
  | .exit id, Q, a, h => Q (.exit id) a h
  | .ret, Q, a, h => Q .ret a h

/-- What a function gives back: temporaries, or what lies in variables of its own. -/
inductive RVar where
  | tmp (t : Nat)
  | cell (t : Nat) (agg : Bool) (n : Nat)
  deriving Inhabited

def resOf (a : Tm) (h : Heap) : RVar → Option V
  | .tmp t => some (a t)
  | .cell t agg n => loadV h agg n (a t)

def retV (a : Tm) (h : Heap) (rs : List RVar) : Option V :=
  match rs with
  | [r] => resOf a h r
  | rs => (rs.mapM (resOf a h)).map .tup

structure Fn0 where
  np : Nat
  body : Cd
  res : List RVar
  deriving Inhabited

def tm0 (args : List V) : Tm := fun t => args.getD t .undef

/-- A function's call. -/
def wpF (C : FuncId → List V → Heap → (V → Heap → Prop) → Prop) (G : Nat → V) (fz : List Nat) (f : Fn0) (args : List V) (h : Heap) (R : V → Heap → Prop) : Prop :=
  args.length = f.np ∧
  wpC C G fz f.body (fun e a h' =>
    match e with
    | .exit _ => False
    | _ => match retV a h' f.res with
      | some v => R v h'
      | none => False) (tm0 args) h

end Go.Am

/- The abstract machine, 2: a function's code, compiled: types looked up, the order inside a statement laid down. -/
namespace Go.Am

def cOne : Value → Option V
  | .bool b => some (.bool b)
  | .int k n => some (.int k n)
  | .string s => some (.str s)
  | .pointer none => some .nilp
  | .slice none 0 0 => some .nil
  | .map none => some .nilm
  | .nilFunc => some .nilf
  | .nilIface => some .nili
  | _ => none

def cList : List Value → Option (List V)
  | [] => some []
  | v :: vs =>
    match cOne v, cList vs with
    | some x, some xs => some (x :: xs)
    | _, _ => none

def cV : Value → Option V
  | .agg cs => (cList cs.toList).map .agg
  | v => cOne v

def cOpd : Operand → Option Opd
  | .tmp t => some (.t t)
  | .const v => (cV v).map .c
  | .global g => some (.g g)
  | .func f => some (.f f)

def cOpds : List Operand → Option (List Opd)
  | [] => some []
  | v :: vs =>
    match cOpd v, cOpds vs with
    | some x, some xs => some (x :: xs)
    | _, _ => none

def cOpdO : Option Operand → Option (Option Opd)
  | none => some none
  | some x => (cOpd x).map some

def isAggD : TypeDesc → Bool
  | .struct _ | .array _ _ => true
  | _ => false
def szT (P : Program) (t : TypeId) : Option Nat := (P.info? t).map (·.size)
def aggT (P : Program) (t : TypeId) : Option Bool := (P.underlying t).map isAggD
def zeroT (P : Program) (t : TypeId) : Option V := ((P.info? t).bind (·.zero)).bind cV

def cParts (place : Nat → Option (Nat × Nat)) : List (Nat × Operand) → Option (List (Nat × Nat × Opd))
  | [] => some []
  | (i, x) :: ps =>
    match place i, cOpd x, cParts place ps with
    | some (off, sz), some y, some qs => some ((off, sz, y) :: qs)
    | _, _, _ => none

def cParts1 : List (Nat × Operand) → Option (List (Nat × Opd))
  | [] => some []
  | (i, x) :: ps =>
    match cOpd x, cParts1 ps with
    | some y, some qs => some ((i, y) :: qs)
    | _, _ => none

/-- Is this type's '==' that of rows of whole numbers? -/
def intsT (P : Program) (t : TypeId) : Bool :=
  match P.underlying t with
  | some (.array _ e) => (match P.underlying e with | some (.int _) => szT P e == some 1 && aggT P e == some false && !(P.eqGuardType P.depth t) | _ => false)
  | _ => false

def keyT (P : Program) (t : TypeId) : Option (Option Nat) :=
  match P.underlying t with
  | some (.int _) => some none
  | some (.array n _) => if intsT P t then some (some n) else none
  | _ => none

def cEq (P : Program) (neg : Bool) (t : TypeId) (x y : Operand) : Option I :=
  match P.underlying t, cOpd x, cOpd y with
  | some (.int _), some a, some b => some (.bin (if neg then .neq else .eql) a b)
  | some .string, some a, some b => some (.bin (if neg then .neq else .eql) a b)
  | some .bool, some a, some b => some (.eq neg .bool a b)
  | some (.pointer _), some a, some b => some (.eq neg .ptr a b)
  | some (.map _ _), some a, some b => some (.eq neg .map a b)
  | some (.func _ _ _), some a, some b => some (.eq neg .func a b)
  | some (.slice _), some a, some (.c .nil) => some (.isnil neg a)
  | some (.array n _), some a, some b => if intsT P t then some (.eq neg (.ints n) a b) else none
  | _, _, _ => none

def cBuiltin (P : Program) (b : Builtin) (args : List Operand) (argTypes : Array TypeId) : Option I :=
  match b, args with
  | .len, [x] =>
    match (argTypes[0]?).bind P.underlying, cOpd x with
    | some .string, some a => some (.lenS a)
    | some (.slice _), some a => some (.len a)
    | some (.map _ _), some a => some (.lenM a)
    | some (.array n _), _ => some (.lenN n)
    | some (.pointer e), _ => (match P.underlying e with | some (.array n _) => some (.lenN n) | _ => none)
    | _, _ => none
  | .append, [x, y] =>
    match (argTypes[0]?).bind P.underlying, cOpd x, cOpd y with
    | some (.slice e), some a, some b =>
      (match P.info? e, zeroT P e with
       | some i, some z => if argTypes[1]? = argTypes[0]? ∧ argTypes.size = 2 ∧ 0 < i.size ∧ z.cells.length = i.size then some (.append e i.size i.bytes a b) else none
       | _, _ => none)
    | _, _, _ => none
  | .delete, [x, k] =>
    match (argTypes[0]?).bind P.underlying, cOpd x, cOpd k with
    | some (.map kt _), some a, some b => (keyT P kt).map fun kn => .delete kn a b
    | _, _, _ => none
  | .clear, [x] =>
    match (argTypes[0]?).bind P.underlying, cOpd x with
    | some (.slice e), some a => (zeroT P e).map fun z => .clear z a
    | _, _ => none
  | .min, [x, y] =>
    match cOpd x, cOpd y with
    | some a, some b => some (.minmax false a b)
    | _, _ => none
  | .max, [x, y] =>
    match cOpd x, cOpd y with
    | some a, some b => some (.minmax true a b)
    | _, _ => none
  | _, _ => none

def cCall (P : Program) (c : Call) : Option I :=
  match c.callee, cOpds c.args.toList with
  | .value (.func f), some args =>
    (match P.funcs[f]? with
     | some fn => if fn.body.isSome && fn.name != "runtime.NumGoroutine" then some (.call f args) else none
     | none => none)
  | .value x, some args => (cOpd x).map fun y => .callv y args
  | .builtin b, _ => cBuiltin P b c.args.toList c.argTypes
  | _, _ => none

def cOp (P : Program) (o : Op) : Option I :=
  match o with
  | .move x | .assign x => (cOpd x).map .mov
  | .pick c x y =>
    match cOpd c, cOpd x, cOpd y with
    | some a, some b, some d => some (.pick a b d)
    | _, _, _ => none
  | .alloc t =>
    match szT P t, zeroT P t with
    | some n, some z => some (.box t n (.c z))
    | _, _ => none
  | .box t x =>
    match szT P t, cOpd x with
    | some n, some y => some (.box t n y)
    | _, _ => none
  | .build t parts =>
    match P.underlying t, zeroT P t with
    | some (.struct fs), some z =>
      (match fs.toList.mapM (fun f => (P.info? f.type).map fun i => (f.offset, i.size)) with
       | some places => (cParts (places.toArray[·]?) parts.toList).map (.build z.cells)
       | none => none)
    | some (.array _ e), some z =>
      (match szT P e with
       | some n => (cParts (fun i => some (i * n, n)) parts.toList).map (.build z.cells)
       | none => none)
    | _, _ => none
  | .buildSlice t len parts =>
    match P.underlying t with
    | some (.slice e) =>
      if len = 0 ∧ parts = #[] then (szT P e).map fun _ => .mov (.c .nil) else
      (match szT P e, zeroT P e with
       | some n, some z => (cParts1 parts.toList).map (.bslice e n z len)
       | _, _ => none)
    | _ => none
  | .load t x =>
    match aggT P t, szT P t, cOpd x with
    | some b, some n, some y => some (.load b n y)
    | _, _, _ => none
  | .store t x v =>
    match szT P t, cOpd x, cOpd v with
    | some n, some y, some z => some (.store n y z)
    | _, _, _ => none
  | .nilCheck x => (cOpd x).map .nilck
  | .binOp .eql t x y _ => cEq P false t x y
  | .binOp .neq t x y _ => cEq P true t x y
  | .binOp op _ x y _ =>
    match cOpd x, cOpd y with
    | some a, some b => some (.bin op a b)
    | _, _ => none
  | .unOp op _ x => (cOpd x).map (.un op)
  | .convert src dst x =>
    match P.underlying src, P.underlying dst, cOpd x with
    | some (.int _), some (.int k), some y => some (.conv k y)
    | some (.slice _), some (.slice e), some y => (match P.underlying e with | some (.int .u8) => if src = dst then some (.still y) else none | _ => none)
    | some (.slice e), some .string, some y => (match P.underlying e with | some (.int .u8) => some (.b2s y) | _ => none)
    | _, _, _ => none
  | .makeInterface t x =>
    match P.underlying t, cOpd x with
    | some (.interface _), _ => none
    | some _, some y => some (.mkiface t y)
    | _, _ => none
  | .makeFunc (.func f) first captured => if first.size = 0 then (cOpds captured.toList).map (.mkfn f) else none
  | .makeMap _ none => some .mkmap
  | .makeSlice t l c =>
    match P.underlying t with
    | some (.slice e) =>
      (match P.info? e, zeroT P e, cOpd l, cOpd c with
       | some i, some z, some a, some b => some (.mkslice e i.size i.bytes z a b)
       | _, _, _, _ => none)
    | _ => none
  | .sliceToArrayPointer t x =>
    match P.underlying t, cOpd x with
    | some (.array n e), some y => if szT P e = some 1 then some (.s2ap n y) else none
    | _, _ => none
  | .panic _ => some .stop
  | .slice t x lo hi mx =>
    match P.underlying t, cOpd x, cOpdO lo, cOpdO hi, cOpdO mx with
    | some (.slice e), some y, some a, some b, some c => if mx.isSome && !hi.isSome then none else (szT P e).map fun n => .slice n y a b c
    | _, _, _, _, _ => none
  | .fieldAddr s x f =>
    match P.underlying s, cOpd x with
    | some (.struct fs), some y =>
      (match fs[f]? with
       | some fd => (match szT P fd.type with | some (_ + 1) => some (.faddr y fd.offset) | _ => none)
       | none => none)
    | _, _ => none
  | .field t x f =>
    match P.underlying t, cOpd x with
    | some (.struct fs), some y =>
      (match fs[f]? with
       | some fd => (match aggT P fd.type, szT P fd.type with | some b, some n => some (.fld b n fd.offset y) | _, _ => none)
       | none => none)
    | _, _ => none
  | .indexAddr t x i =>
    match P.underlying t, cOpd x, cOpd i with
    | some (.slice e), some y, some j => (szT P e).map fun n => .iaddr n y j
    | some (.array len e), some y, some j => (szT P e).map fun n => .iaddrA len n y j
    | _, _, _ => none
  | .index t x i =>
    match P.underlying t, cOpd x, cOpd i with
    | some (.array len e), some y, some j => (match aggT P e, szT P e with | some b, some n => some (.idxA b len n y j) | _, _ => none)
    | some .string, some y, some j => some (.idxS y j)
    | _, _, _ => none
  | .lookup t x k ok =>
    match P.underlying t, cOpd x, cOpd k with
    | some (.map kt e), some y, some q =>
      (match keyT P kt, zeroT P e with
       | some kn, some z => some (.lookup kn z y q ok)
       | _, _ => none)
    | _, _, _ => none
  | .mapUpdate t m k v =>
    match P.underlying t, cOpd m, cOpd k, cOpd v with
    | some (.map kt _), some y, some q, some z => (keyT P kt).map fun kn => .mupd kn y q z
    | _, _, _, _ => none
  | .mapEntry t m k =>
    match P.underlying t, cOpd m, cOpd k with
    | some (.map kt e), some y, some q =>
      (match keyT P kt, zeroT P e with
       | some kn, some z => some (.mentry kn z y q)
       | _, _ => none)
    | _, _, _ => none
  | .entryStore _ m s v =>
    match cOpd m, cOpd s, cOpd v with
    | some y, some q, some z => some (.estore y q z)
    | _, _, _ => none
  | .extract x i => (cOpd x).map fun y => .extract y i
  | .call c => cCall P c
  | _ => none

def cGuard (ops : Array Oper) : Option (Nat × Bool) → Option (Option (Nat × Bool))
  | none => some none
  | some (j, b) => ((ops[j]?).bind (·.dst)).map fun t => some (t, b)

def cIns (P : Program) (N : Nat) (ops : Array Oper) (o : Oper) : Option Ins :=
  match cOp P o.op, cGuard ops o.guard with
  | some i, some g => if o.dst.all (· < N) then some ⟨o.dst, g, i, []⟩ else none
  | _, _ => none

def cInsL (P : Program) (N : Nat) (ops : Array Oper) : List Oper → Option (List Ins)
  | [] => some []
  | o :: os =>
    match cIns P N ops o, cInsL P N ops os with
    | some i, some is => some (i :: is)
    | _, _ => none

/-- 0: it looks at nothing; 1: it reads memory; 2: it acts. -/
def kindI : I → Nat
  | .load .. | .lookup .. | .b2s _ | .lenM _ | .iaddr .. | .slice .. => 1
  | .box .. | .bslice .. | .store .. | .mkslice .. | .mkmap | .mupd .. | .mentry .. | .estore .. | .append .. | .delete .. | .still _ | .clear .. | .call .. | .callv .. | .isnil .. | .stop => 2
  | _ => 0

/-- The temporaries that an operand, an instruction looks at. -/
def Opd.tmps : Opd → List Nat
  | .t n => [n]
  | _ => []
def I.tmps : I → List Nat
  | .mov x | .box _ _ x | .nilck x | .un _ x | .conv _ x | .b2s x | .faddr x _ | .fld _ _ _ x | .load _ _ x | .extract x _ | .len x | .lenS x | .lenM x | .mkiface _ x | .isnil _ x | .still x | .clear _ x | .s2ap _ x => x.tmps
  | .pick c x y => c.tmps ++ (x.tmps ++ y.tmps)
  | .build _ ps => ps.flatMap fun p => p.2.2.tmps
  | .bslice _ _ _ _ ps => ps.flatMap fun p => p.2.tmps
  | .store _ x v | .bin _ x v | .eq _ _ x v | .iaddr _ x v | .iaddrA _ _ x v | .idxA _ _ _ x v | .mkslice _ _ _ _ x v | .lookup _ _ x v _ | .mentry _ _ x v | .append _ _ _ x v | .delete _ x v | .minmax _ x v | .idxS x v => x.tmps ++ v.tmps
  | .slice _ x lo hi mx => x.tmps ++ ((lo.toList.flatMap Opd.tmps) ++ ((hi.toList.flatMap Opd.tmps) ++ (mx.toList.flatMap Opd.tmps)))
  | .mupd _ x k v | .estore x k v => x.tmps ++ (k.tmps ++ v.tmps)
  | .mkfn _ caps => caps.flatMap Opd.tmps
  | .call _ args => args.flatMap Opd.tmps
  | .callv x args => x.tmps ++ args.flatMap Opd.tmps
  | .mkmap | .lenN _ | .stop => []
def Ins.tmps (i : Ins) : List Nat :=
  i.op.tmps ++ (match i.g with
    | some (t, _) => [t]
    | none => [])

/-- What comes before an operation at once. -/
def preOf (ops : Array Oper) (j : Nat) : List Nat :=
  match ops[j]? with
  | some o => (o.after.toList.filter (Region.binds .any)).map (·.on)
  | none => []

/-- What does not act and can be done behind 'done'. -/
def quietOf (kinds : Nat → Nat) (bef : Nat → Nat → Bool) (n : Nat) : Nat → List Nat → List Nat → List Nat
  | 0, _, out => out
  | fuel + 1, done, out =>
    match (List.range n).find? fun j => kinds j != 2 && !done.contains j && (List.range n).all fun i => !(bef i j) || done.contains i with
    | some j => quietOf kinds bef n fuel (j :: done) (out ++ [j])
    | none => out

/-- The orders of what acts, as a tree of numbers. -/
inductive NT where
  | done
  | pre (is : List Nat) (t : NT)
  | act (i : Nat) (t : NT)
  | both (x y : NT)

def bothL : List NT → NT
  | [] => .done
  | [t] => t
  | t :: ts => .both t (bothL ts)

def treeOf (kinds : Nat → Nat) (bef : Nat → Nat → Bool) (n : Nat) : Nat → List Nat → NT
  | 0, _ => .done
  | fuel + 1, done =>
    let q := quietOf kinds bef n n done []
    let done := q.reverse ++ done
    let acts := (List.range n).filter fun j => kinds j == 2 && !done.contains j && (List.range n).all fun i => !(bef i j) || done.contains i
    let t := bothL (acts.map fun j => .act j (treeOf kinds bef n fuel (j :: done)))
    if q.isEmpty then t else .pre q t

/-- The instructions of a tree; 'q': what was read on the way, latest last. -/
def cTree (is : Array Ins) (bef : Nat → Nat → Bool) : NT → List Nat → Option Tr
  | .done, _ => some .done
  | .pre l t, q =>
    match l.mapM (fun j => is[j]?), cTree is bef t (q ++ l) with
    | some xs, some y => some (.pre xs y)
    | _, _ => none
  | .act j t, q =>
    match is[j]?, cTree is bef t q with
    | some x, some y =>
      some (.act { x with rr := (q.filter fun i => !(bef i j)).filterMap fun i => (is[i]?).bind fun z => if kindI z.op = 1 then z.dst.map fun d => (z.g, d, z.op) else none } y)
    | _, _ => none
  | .both x y, q =>
    match cTree is bef x q, cTree is bef y q with
    | some a, some b => some (.both a b)
    | _, _ => none

/-- The numbers that a tree begins with. -/
def heads : NT → List Nat
  | .act i _ => [i]
  | .both x y => heads x ++ heads y
  | _ => []

/-- Is all that could come next in hs? -/
def complete (pre : Nat → List Nat) (n : Nat) (hs D : List Nat) : Bool := (List.range n).all fun i => D.contains i || !((pre i).all D.contains) || hs.contains i

def okPre (kinds : Nat → Nat) (pre : Nat → List Nat) (n : Nat) : List Nat → List Nat → Bool
  | [], _ => true
  | i :: l, D => decide (i < n) && !D.contains i && (pre i).all D.contains && kinds i != 2 && okPre kinds pre n l (i :: D)

/-- Does the tree hold all orders? -/
def okN (kinds : Nat → Nat) (pre : Nat → List Nat) (n : Nat) : Bool → NT → List Nat → Bool
  | top, .done, D => top && complete pre n [] D
  | top, .pre l t, D => top && okPre kinds pre n l D && okN kinds pre n true t (l.reverse ++ D)
  | top, .act i t, D => (!top || complete pre n [i] D) && decide (i < n) && !D.contains i && (pre i).all D.contains && kinds i == 2 && okN kinds pre n true t (i :: D)
  | top, .both x y, D => (!top || complete pre n (heads x ++ heads y) D) && okN kinds pre n false x D && okN kinds pre n false y D

def dstOf (is : Array Ins) (i : Nat) : Option Nat := (is[i]?).bind (·.dst)
def tmpsOf (is : Array Ins) (i : Nat) : List Nat := ((is[i]?).map (·.tmps)).getD []
/-- What kind it is; what overwrites what an earlier one looks at counts as one that acts. -/
def kindOf (is : Array Ins) (bef : Nat → Nat → Bool) (i : Nat) : Nat :=
  match is[i]? with
  | some x => if (match x.dst with | some d => (List.range is.size).any fun j => bef j i && (tmpsOf is j).contains d | none => false) then 2 else kindI x.op
  | none => 2

def chkPair (is : Array Ins) (bef : Nat → Nat → Bool) (pre : Nat → List Nat) (i j : Nat) : Bool :=
  (match dstOf is i with
   | some d => (i == j || dstOf is j != some d) && (!(tmpsOf is j).contains d || bef i j || (kindOf is bef i == 2 && bef j i))
   | none => true) &&
  (!bef i j || (pre j).contains i || (pre j).any (bef i))

def chkDraw (is : Array Ins) (bef : Nat → Nat → Bool) (pre : Nat → List Nat) (n : Nat) : Bool :=
  ((List.range n).all fun i => (List.range n).all fun j => chkPair is bef pre i j) && (List.range n).all fun i => kindOf is bef i != 1 || (dstOf is i).isSome

def befOf (ops : Array Oper) : Nat → Nat → Bool :=
  let b := Region.before ops
  fun i j => (b.getD j 0).testBit i

def cDraw (P : Program) (N : Nat) (ops : Array Oper) : Option Cd :=
  match cInsL P N ops ops.toList with
  | none => none
  | some is =>
    let bef := befOf ops
    let isA := is.toArray
    let kinds := kindOf isA bef
    let t := treeOf kinds bef ops.size (ops.size + 1) []
    if chkDraw isA bef (preOf ops) ops.size && okN kinds (preOf ops) ops.size true t [] then (cTree isA bef t []).map .draw else none

def cCode (P : Program) (N : Nat) : Code → Option Cd
  | .skip => some .skip
  | .region _ ops draw => if draw then cDraw P N ops else (cInsL P N ops ops.toList).map .region
  | .seq a b =>
    match cCode P N a, cCode P N b with
    | some x, some y => some (.seq x y)
    | _, _ => none
  | .cond c a b =>
    match cOpd c, cCode P N a, cCode P N b with
    | some z, some x, some y => some (.cond z x y)
    | _, _, _ => none
  | .block id a => (cCode P N a).map (.block id)
  | .loop a => (cCode P N a).map .loop
  | .exit id => some (.exit id)
  | .ret => some .ret
  | _ => none

def cRes (P : Program) : List ResultVar → Option (List RVar)
  | [] => some []
  | r :: rs =>
    match (match r with | .tmp t => some (RVar.tmp t) | .cell t ty => (match aggT P ty, szT P ty with | some b, some n => some (RVar.cell t b n) | _, _ => none)), cRes P rs with
    | some x, some xs => some (x :: xs)
    | _, _ => none

def cFn (P : Program) (f : FuncId) : Option Fn0 :=
  match P.funcs[f]? with
  | none => none
  | some fn =>
    match fn.body with
    | none => none
    | some c =>
      match cCode P fn.ntmps c, cRes P fn.results.toList with
      | some b, some r => if fn.params.size + fn.nfree ≤ fn.ntmps ∧ (fn.name == "runtime.NumGoroutine") = false then some ⟨fn.params.size + fn.nfree, b, r⟩ else none
      | _, _ => none

end Go.Am

/- The abstract machine, 3: when a world of Go's is as the abstract memory says. -/
namespace Go.Am

/-- Where the objects lie: block, cells an element has, cells of the block; maps; blocks that nobody writes any more. -/
structure Ren where
  obj : Nat → Option (Nat × Nat × Nat)
  map : Nat → Option Nat
  F : Nat → Prop

inductive RV (ρ : Ren) (w : World) : V → Value → Prop
  | undef (v : Value) : RV ρ w .undef v
  | bool (b : Bool) : RV ρ w (.bool b) (.bool b)
  | int (k : IntKind) (n : Int) : RV ρ w (.int k n) (.int k n)
  | str (s : ByteArray) : RV ρ w (.str s) (.string s)
  | nil (a : Option Addr) : RV ρ w .nil (.slice a 0 0)
  | lst (xs : List V) (s : Nat) (a : Option Addr) (c : Nat) (f : Nat → Value) (hc : xs.length ≤ c) (hs : ∀ x ∈ xs, x.sane = true ∧ x.cells.length = s)
      (ha : 0 < xs.length → ∃ b off, a = some ⟨b, off, none⟩ ∧ ρ.F b ∧ ∀ j, j < xs.length * s → w.cell? ⟨b, off + j, none⟩ = some (f j))
      (hv : ∀ j u, (xs.flatMap V.cells)[j]? = some u → RV ρ w u (f j)) : RV ρ w (.lst xs) (.slice a xs.length c)
  | slc (o off len room r s nb c : Nat) (h : ρ.obj o = some (r, s, nb)) (hl : len ≤ room) (hr : room ≤ c) (hn : (off + c) * s ≤ nb) : RV ρ w (.slc o off len room) (.slice (some ⟨r, off * s, none⟩) len c)
  | ptr (o i sub r s nb : Nat) (h : ρ.obj o = some (r, s, nb)) : RV ρ w (.ptr o i sub) (.pointer (some ⟨r, i * s + sub, none⟩))
  | cptr (cs : List V) (b off : Nat) (f : Nat → Value) (h1 : ∀ x ∈ cs, x.one = true) (hF : ρ.F b) (hc : ∀ j, j < cs.length → w.cell? ⟨b, off + j, none⟩ = some (f j))
      (hv : ∀ j u, cs[j]? = some u → RV ρ w u (f j)) : RV ρ w (.cptr cs) (.pointer (some ⟨b, off, none⟩))
  | nilp : RV ρ w .nilp (.pointer none)
  | map (m r : Nat) (h : ρ.map m = some r) : RV ρ w (.map m) (.map (some r))
  | nilm : RV ρ w .nilm (.map none)
  | fn (f : FuncId) (caps : List V) (vs : Array Value) (hl : vs.size = caps.length) (hv : ∀ j u, caps[j]? = some u → RV ρ w u (vs.getD j Go.undef)) : RV ρ w (.fn f caps) (.func (.func f) #[] vs)
  | nilf : RV ρ w .nilf .nilFunc
  | iface (t : TypeId) (v : V) (x : Value) (h : RV ρ w v x) : RV ρ w (.iface t v) (.iface t x)
  | nili : RV ρ w .nili .nilIface
  | agg (cs : List V) (vs : Array Value) (hl : vs.size = cs.length) (hv : ∀ j u, cs[j]? = some u → RV ρ w u (vs.getD j Go.undef)) : RV ρ w (.agg cs) (.agg vs)
  | tup (cs : List V) (vs : Array Value) (hl : vs.size = cs.length) (hv : ∀ j u, cs[j]? = some u → RV ρ w u (vs.getD j Go.undef)) : RV ρ w (.tup cs) (.tuple vs)

/-- What is known of one world holds in a later one. -/
structure Le (ρ : Ren) (w : World) (ρ' : Ren) (w' : World) : Prop where
  obj : ∀ o t, ρ.obj o = some t → ρ'.obj o = some t
  map : ∀ o t, ρ.map o = some t → ρ'.map o = some t
  F : ∀ b, ρ.F b → ρ'.F b
  keep : ∀ b, ρ.F b → w'.heap[b]? = w.heap[b]?

theorem Le.refl (ρ : Ren) (w : World) : Le ρ w ρ w := ⟨fun _ _ h => h, fun _ _ h => h, fun _ h => h, fun _ _ => rfl⟩
theorem Le.trans {ρ ρ' ρ'' : Ren} {w w' w'' : World} (h : Le ρ w ρ' w') (k : Le ρ' w' ρ'' w'') : Le ρ w ρ'' w'' :=
  ⟨fun o t e => k.obj o t (h.obj o t e), fun o t e => k.map o t (h.map o t e), fun b e => k.F b (h.F b e), fun b e => (k.keep b (h.F b e)).trans (h.keep b e)⟩

theorem RV.mono {ρ ρ' : Ren} {w w' : World} {v : V} {x : Value} (h : RV ρ w v x) (l : Le ρ w ρ' w') : RV ρ' w' v x := by
  induction h with
  | undef v => exact .undef v
  | bool b => exact .bool b
  | int k n => exact .int k n
  | str s => exact .str s
  | nil a => exact .nil a
  | lst xs s a c f hc hs ha hv ih =>
    refine .lst xs s a c f hc hs (fun h0 => ?_) ih
    obtain ⟨b, off, ea, hF, hcell⟩ := ha h0
    exact ⟨b, off, ea, l.F b hF, fun j hj => (World.cell?_of_block (l.keep b hF)).trans (hcell j hj)⟩
  | slc o off len room r s nb c h hl hr hn => exact .slc o off len room r s nb c (l.obj _ _ h) hl hr hn
  | ptr o i sub r s nb h => exact .ptr o i sub r s nb (l.obj _ _ h)
  | cptr cs b off f h1 hF hc hv ih => exact .cptr cs b off f h1 (l.F b hF) (fun j hj => (World.cell?_of_block (l.keep b hF)).trans (hc j hj)) ih
  | nilp => exact .nilp
  | map m r h => exact .map m r (l.map _ _ h)
  | nilm => exact .nilm
  | fn f caps vs hl hv ih => exact .fn f caps vs hl ih
  | nilf => exact .nilf
  | iface t v x h ih => exact .iface t v x ih
  | nili => exact .nili
  | agg cs vs hl hv ih => exact .agg cs vs hl ih
  | tup cs vs hl hv ih => exact .tup cs vs hl ih

theorem RV.oneCell {ρ : Ren} {w : World} {u : V} {x : Value} (h : RV ρ w u x) (h1 : u.one = true) : x.oneCell' = true := by
  cases h <;> first | rfl | simp [V.one] at h1

theorem RV.cells1 {ρ : Ren} {w : World} {u : V} {x : Value} (h : RV ρ w u x) (h1 : u.one = true) : x.cells = #[x] := by
  cases h <;> first | rfl | simp [V.one] at h1

theorem V.cells_one {u : V} (h1 : u.one = true) : u.cells = [u] := by
  cases u <;> first | rfl | simp [V.one] at h1

theorem V.cells_all {u : V} (h : u.sane = true) : ∀ x ∈ u.cells, x.one = true := by
  cases u <;> simp_all [V.sane, V.cells, V.one]

theorem V.one_or {u : V} (h : u.sane = true) : (∃ cs, u = .agg cs) ∨ u.one = true := by
  cases u <;> simp_all [V.sane, V.one]

/-- A value's cells are as they should be. -/
theorem RV.cells {ρ : Ren} {w : World} {u : V} {x : Value} (h : RV ρ w u x) (hs : u.sane = true) :
    x.cells.size = u.cells.length ∧ ∀ j y, u.cells[j]? = some y → RV ρ w y (x.cells.getD j Go.undef) := by
  rcases V.one_or hs with ⟨cs, rfl⟩ | h1
  · cases h with
    | agg cs vs hl hv => exact ⟨hl, hv⟩
  · rw [h.cells1 h1, V.cells_one h1]
    refine ⟨rfl, fun j y hy => ?_⟩
    cases j with
    | zero => simp at hy; subst hy; simpa using h
    | succ j => simp at hy

theorem flat_length (xs : List V) (s : Nat) (hs : ∀ x ∈ xs, x.cells.length = s) : (xs.flatMap V.cells).length = xs.length * s := by
  induction xs with
  | nil => simp
  | cons x xs ih =>
    simp only [List.flatMap_cons, List.length_append, List.length_cons]
    rw [hs x (by simp), ih (fun y hy => hs y (by simp [hy])), Nat.add_mul]
    omega

theorem flat_at (xs : List V) (s : Nat) (hs : ∀ x ∈ xs, x.cells.length = s) (i : Nat) (x : V) (hx : xs[i]? = some x) (j : Nat) (hj : j < s) :
    (xs.flatMap V.cells)[i * s + j]? = x.cells[j]? := by
  induction xs generalizing i with
  | nil => simp at hx
  | cons y ys ih =>
    simp only [List.flatMap_cons]
    have hy := hs y (by simp)
    cases i with
    | zero =>
      simp at hx
      subst hx
      rw [List.getElem?_append_left (by omega)]
      simp
    | succ i =>
      rw [List.getElem?_append_right (by rw [hy, Nat.add_mul]; omega)]
      rw [← ih (fun z hz => hs z (by simp [hz])) i (by simpa using hx)]
      congr 1
      rw [hy, Nat.add_mul]
      omega

/-- An object's block. -/
def ObjOk (ρ : Ren) (w : World) (ty sz : Nat) (xs : List V) (r nb : Nat) : Prop :=
  (∀ x ∈ xs, x.sane = true ∧ x.cells.length = sz) ∧ ∃ cells : Array Value, w.heap[r]? = some (.cells cells ty (0, 0)) ∧ cells.size = nb ∧ ∀ (j : Nat) (u : V), (xs.flatMap V.cells)[j]? = some u → ∃ v : Value, cells[j]? = some v ∧ RV ρ w u v

def EntsOk (ρ : Ren) (w : World) (es : List En) (ents : Array MapEntry) : Prop :=
  ents.size = es.length ∧ ∀ (j : Nat) (e : En), es[j]? = some e → ∃ x : MapEntry, ents[j]? = some x ∧ RV ρ w e.key x.key ∧ RV ρ w e.val x.val ∧ x.born = e.born

structure Rel (G : Nat → V) (ρ : Ren) (h : Heap) (w : World) : Prop where
  arr : ∀ o ty sz xs, h.obj o = some (.arr ty sz xs) → ∃ r nb, ρ.obj o = some (r, sz, nb) ∧ ¬ ρ.F r ∧ ObjOk ρ w ty sz xs r nb
  map : ∀ m es cl, h.obj m = some (.map es cl) → ∃ (r : Nat) (ents : Array MapEntry), ρ.map m = some r ∧ ¬ ρ.F r ∧ w.heap[r]? = some (.map ents cl) ∧ EntsOk ρ w es ents
  injA : ∀ o o' ty sz xs ty' sz' xs' r s s', h.obj o = some (.arr ty sz xs) → h.obj o' = some (.arr ty' sz' xs') → ρ.obj o = some (r, s) → ρ.obj o' = some (r, s') → o = o'
  injM : ∀ o o' es cl es' cl' r, h.obj o = some (.map es cl) → h.obj o' = some (.map es' cl') → ρ.map o = some r → ρ.map o' = some r → o = o'
  dom : ∀ o, h.next ≤ o → ρ.obj o = none ∧ ρ.map o = none
  glo : ∀ g, RV ρ w (G g) (.pointer (some ⟨g, 0, none⟩))
  flt : ∀ r, ρ.F r → r < w.heap.size

structure Step (ρ : Ren) (w : World) (ρ' : Ren) (w' : World) : Prop extends Le ρ w ρ' w' where
  size : w.heap.size ≤ w'.heap.size
  os : w'.os = w.os
  tape : w'.tape = w.tape
  output : w'.output = w.output

theorem Step.refl (ρ : Ren) (w : World) : Step ρ w ρ w := ⟨Le.refl ρ w, Nat.le_refl _, rfl, rfl, rfl⟩
theorem Step.trans {ρ ρ' ρ'' : Ren} {w w' w'' : World} (h : Step ρ w ρ' w') (k : Step ρ' w' ρ'' w'') : Step ρ w ρ'' w'' :=
  ⟨h.toLe.trans k.toLe, Nat.le_trans h.size k.size, k.os.trans h.os, k.tape.trans h.tape, k.output.trans h.output⟩

theorem ObjOk.mono {ρ ρ' : Ren} {w w' : World} {ty sz : Nat} {xs : List V} {r nb : Nat} (h : ObjOk ρ w ty sz xs r nb) (l : Le ρ w ρ' w') (hb : w'.heap[r]? = w.heap[r]?) : ObjOk ρ' w' ty sz xs r nb := by
  obtain ⟨hs, cells, hc, hn, hv⟩ := h
  refine ⟨hs, cells, hb.trans hc, hn, fun j u hu => ?_⟩
  obtain ⟨v, hj, hr⟩ := hv j u hu
  exact ⟨v, hj, hr.mono l⟩

theorem EntsOk.mono {ρ ρ' : Ren} {w w' : World} {es : List En} {ents : Array MapEntry} (h : EntsOk ρ w es ents) (l : Le ρ w ρ' w') : EntsOk ρ' w' es ents :=
  ⟨h.1, fun j e he => by obtain ⟨x, hx, h1, h2, h3⟩ := h.2 j e he; exact ⟨x, hx, h1.mono l, h2.mono l, h3⟩⟩

theorem heap_lt {w : World} {r : Nat} {o : Obj} (h : w.heap[r]? = some o) : r < w.heap.size := (Array.getElem?_eq_some_iff.1 h).1

/-- The same memory, other draws. -/
theorem Rel.same {G : Nat → V} {ρ : Ren} {h : Heap} {w w' : World} (R : Rel G ρ h w) (e : w'.heap = w.heap) : Rel G ρ h w' := by
  have l : Le ρ w ρ w' := ⟨fun _ _ h => h, fun _ _ h => h, fun _ h => h, fun _ _ => by rw [e]⟩
  refine ⟨fun o ty sz xs ho => ?_, fun m es cl hm => ?_, R.injA, R.injM, R.dom, fun g => (R.glo g).mono l, fun r hr => by rw [e]; exact R.flt r hr⟩
  · obtain ⟨r, nb, h1, h2, h3⟩ := R.arr o ty sz xs ho
    exact ⟨r, nb, h1, h2, h3.mono l (by rw [e])⟩
  · obtain ⟨r, ents, h1, h2, h3, h4⟩ := R.map m es cl hm
    exact ⟨r, ents, h1, h2, by rw [e]; exact h3, h4.mono l⟩

/-- A block that is no object's is turned, or made; objects may be forgotten. -/
theorem Rel.forget {G : Nat → V} {ρ ρ' : Ren} {h h' : Heap} {w w' : World} (R : Rel G ρ h w) (l : Le ρ w ρ' w')
    (hobj : ∀ o x, h'.obj o = some x → h.obj o = some x)
    (hdom : ∀ o, h'.next ≤ o → ρ'.obj o = none ∧ ρ'.map o = none)
    (hblock : ∀ o x, h'.obj o = some x → ∀ r, (∃ s, ρ.obj o = some (r, s)) ∨ ρ.map o = some r → w'.heap[r]? = w.heap[r]? ∧ (¬ ρ.F r → ¬ ρ'.F r))
    (hinj : ∀ o t, ρ'.obj o = some t → o < h.next → ρ.obj o = some t) (hinjm : ∀ o t, ρ'.map o = some t → o < h.next → ρ.map o = some t)
    (hflt : ∀ r, ρ'.F r → r < w'.heap.size) : Rel G ρ' h' w' := by
  refine ⟨fun o ty sz xs ho => ?_, fun m es cl hm => ?_, fun o o' ty sz xs ty' sz' xs' r s s' h1 h2 h3 h4 => ?_, fun o o' es cl es' cl' r h1 h2 h3 h4 => ?_, hdom, fun g => (R.glo g).mono l, hflt⟩
  · obtain ⟨r, nb, h1, h2, h3⟩ := R.arr o ty sz xs (hobj _ _ ho)
    obtain ⟨hb, hF⟩ := hblock o _ ho r (.inl ⟨_, h1⟩)
    exact ⟨r, nb, l.obj _ _ h1, hF h2, h3.mono l hb⟩
  · obtain ⟨r, ents, h1, h2, h3, h4⟩ := R.map m es cl (hobj _ _ hm)
    obtain ⟨hb, hF⟩ := hblock m _ hm r (.inr h1)
    exact ⟨r, ents, l.map _ _ h1, hF h2, hb.trans h3, h4.mono l⟩
  · exact R.injA o o' _ _ _ _ _ _ r s s' (hobj _ _ h1) (hobj _ _ h2) (hinj _ _ h3 (Heap.lt_next (hobj _ _ h1))) (hinj _ _ h4 (Heap.lt_next (hobj _ _ h2)))
  · exact R.injM o o' _ _ _ _ r (hobj _ _ h1) (hobj _ _ h2) (hinjm _ _ h3 (Heap.lt_next (hobj _ _ h1))) (hinjm _ _ h4 (Heap.lt_next (hobj _ _ h2)))

end Go.Am

/- The abstract machine, 4: how the tie between memory and world goes on when something is made, written, forgotten. -/
namespace Go.Am
variable {G : Nat → V} {ρ : Ren} {h : Heap} {w : World}

/-- Objects of other blocks stay. -/
theorem Rel.others {ρ' : Ren} {w' : World} (R : Rel G ρ h w) (l : Le ρ w ρ' w') (r0 : Nat)
    (hblock : ∀ r, r < w.heap.size → r ≠ r0 → w'.heap[r]? = w.heap[r]?) (hF : ∀ r, r < w.heap.size → r ≠ r0 → ρ'.F r → ρ.F r) :
    (∀ o ty sz xs, h.obj o = some (.arr ty sz xs) → (∀ s, ρ.obj o ≠ some (r0, s)) → ∃ r nb, ρ.obj o = some (r, sz, nb) ∧ ρ'.obj o = some (r, sz, nb) ∧ ¬ ρ'.F r ∧ ObjOk ρ' w' ty sz xs r nb) ∧
    (∀ m es cl, h.obj m = some (.map es cl) → ρ.map m ≠ some r0 → ∃ (r : Nat) (ents : Array MapEntry), ρ.map m = some r ∧ ρ'.map m = some r ∧ ¬ ρ'.F r ∧ w'.heap[r]? = some (.map ents cl) ∧ EntsOk ρ' w' es ents) := by
  refine ⟨fun o ty sz xs ho hne => ?_, fun m es cl hm hne => ?_⟩
  · obtain ⟨r, nb, h1, h2, h3⟩ := R.arr o ty sz xs ho
    have hr : r ≠ r0 := fun e => hne _ (e ▸ h1)
    have hlt : r < w.heap.size := by obtain ⟨_, c, hc, _⟩ := h3; exact heap_lt hc
    exact ⟨r, nb, h1, l.obj _ _ h1, fun hf => h2 (hF r hlt hr hf), h3.mono l (hblock r hlt hr)⟩
  · obtain ⟨r, ents, h1, h2, h3, h4⟩ := R.map m es cl hm
    have hr : r ≠ r0 := fun e => hne (e ▸ h1)
    exact ⟨r, ents, h1, l.map _ _ h1, fun hf => h2 (hF r (heap_lt h3) hr hf), (hblock r (heap_lt h3) hr).trans h3, h4.mono l⟩

/-- A new row. -/
theorem Rel.alloc (R : Rel G ρ h w) (ty sz : Nat) (xs : List V) (cells : Array Value) (w' : World) (e : w'.heap = w.heap.push (.cells cells ty (0, 0)))
    (hs : ∀ x ∈ xs, x.sane = true ∧ x.cells.length = sz) (hv : ∀ (j : Nat) (u : V), (xs.flatMap V.cells)[j]? = some u → ∃ v : Value, cells[j]? = some v ∧ RV ρ w u v)
    (ho : w'.os = w.os) (ht : w'.tape = w.tape) (hou : w'.output = w.output) :
    ∃ ρ', Step ρ w ρ' w' ∧ Rel G ρ' (h.alloc (.arr ty sz xs)) w' ∧ ρ'.obj h.next = some (w.heap.size, sz, cells.size) := by
  let ρ' : Ren := { obj := fun o => if o = h.next then some (w.heap.size, sz, cells.size) else ρ.obj o, map := ρ.map, F := ρ.F }
  have hold : ∀ r, r < w.heap.size → w'.heap[r]? = w.heap[r]? := fun r hr => by rw [e, Array.getElem?_push, if_neg (by omega)]
  have hnew : w'.heap[w.heap.size]? = some (.cells cells ty (0, 0)) := by rw [e]; simp
  have l : Le ρ w ρ' w' := by
    refine ⟨fun o t h1 => ?_, fun _ _ h1 => h1, fun _ h1 => h1, fun b hb => hold b (R.flt b hb)⟩
    show (if o = h.next then _ else ρ.obj o) = some t
    rw [if_neg (fun e => ?_)]
    · exact h1
    · subst e; rw [(R.dom _ (Nat.le_refl _)).1] at h1; cases h1
  have st : Step ρ w ρ' w' := ⟨l, by rw [e]; simp, ho, ht, hou⟩
  have hnF : ¬ ρ.F w.heap.size := fun hf => Nat.lt_irrefl _ (R.flt _ hf)
  obtain ⟨oth, othm⟩ := R.others l w.heap.size (fun r hr _ => hold r hr) (fun _ _ _ hf => hf)
  have hlow : ∀ o ty' sz' xs' r s, h.obj o = some (.arr ty' sz' xs') → ρ.obj o = some (r, s) → r < w.heap.size := fun o ty' sz' xs' r s h1 h2 => by
    obtain ⟨r', _, h3, _, _, c, hc, _⟩ := R.arr o ty' sz' xs' h1
    rw [h2] at h3
    injection h3 with h3
    injection h3 with h3 _
    subst h3
    exact heap_lt hc
  have hlowm : ∀ o es cl r, h.obj o = some (.map es cl) → ρ.map o = some r → r < w.heap.size := fun o es cl r h1 h2 => by
    obtain ⟨r', ents, h3, _, h4, _⟩ := R.map o es cl h1
    rw [h2] at h3
    injection h3 with h3
    subst h3
    exact heap_lt h4
  refine ⟨ρ', st, ⟨fun o ty' sz' xs' h1 => ?_, fun m es cl h1 => ?_, fun o o' ty1 sz1 xs1 ty2 sz2 xs2 r s s' h1 h2 h3 h4 => ?_, fun o o' es cl es' cl' r h1 h2 h3 h4 => ?_, fun o h1 => ?_, fun g => (R.glo g).mono l, fun r hr => ?_⟩, if_pos rfl⟩
  · simp only [Heap.alloc] at h1
    split at h1
    · rename_i eo
      injection h1 with h1
      injection h1 with h1 h2 h3
      subst h1 h2 h3
      refine ⟨w.heap.size, cells.size, if_pos eo, hnF, hs, cells, hnew, rfl, fun j u hu => ?_⟩
      obtain ⟨v, hj, hr⟩ := hv j u hu
      exact ⟨v, hj, hr.mono l⟩
    · obtain ⟨r, nb, _, h3, h4, h5⟩ := oth o ty' sz' xs' h1 (fun s h2 => Nat.lt_irrefl _ (hlow o _ _ _ _ _ h1 h2))
      exact ⟨r, nb, h3, h4, h5⟩
  · simp only [Heap.alloc] at h1
    split at h1
    · cases h1
    · obtain ⟨r, ents, _, h3, h4, h5, h6⟩ := othm m es cl h1 (fun h2 => Nat.lt_irrefl _ (hlowm m _ _ _ h1 h2))
      exact ⟨r, ents, h3, h4, h5, h6⟩
  · simp only [Heap.alloc] at h1 h2
    change (if o = h.next then _ else ρ.obj o) = _ at h3
    change (if o' = h.next then _ else ρ.obj o') = _ at h4
    by_cases e1 : o = h.next <;> by_cases e2 : o' = h.next
    · rw [e1, e2]
    · rw [if_pos e1] at h3
      rw [if_neg e2] at h2 h4
      injection h3 with h3
      injection h3 with h3 _
      subst h3
      exact absurd (hlow o' _ _ _ _ _ h2 h4) (Nat.lt_irrefl _)
    · rw [if_pos e2] at h4
      rw [if_neg e1] at h1 h3
      injection h4 with h4
      injection h4 with h4 _
      subst h4
      exact absurd (hlow o _ _ _ _ _ h1 h3) (Nat.lt_irrefl _)
    · rw [if_neg e1] at h1 h3
      rw [if_neg e2] at h2 h4
      exact R.injA o o' _ _ _ _ _ _ r s s' h1 h2 h3 h4
  · simp only [Heap.alloc] at h1 h2
    by_cases e1 : o = h.next
    · rw [if_pos e1] at h1; cases h1
    · by_cases e2 : o' = h.next
      · rw [if_pos e2] at h2; cases h2
      · rw [if_neg e1] at h1
        rw [if_neg e2] at h2
        exact R.injM o o' _ _ _ _ r h1 h2 h3 h4
  · have : h.next + 1 ≤ o := h1
    refine ⟨?_, (R.dom o (by omega)).2⟩
    show (if o = h.next then _ else ρ.obj o) = none
    rw [if_neg (by omega)]
    exact (R.dom o (by omega)).1
  · have := R.flt r hr
    rw [e]
    simp
    omega

/-- A new map. -/
theorem Rel.allocMap (R : Rel G ρ h w) (w' : World) (e : w'.heap = w.heap.push (.map #[] 0)) (ho : w'.os = w.os) (ht : w'.tape = w.tape) (hou : w'.output = w.output) :
    ∃ ρ', Step ρ w ρ' w' ∧ Rel G ρ' (h.alloc (.map [] 0)) w' ∧ ρ'.map h.next = some w.heap.size := by
  let ρ' : Ren := { obj := ρ.obj, map := fun o => if o = h.next then some w.heap.size else ρ.map o, F := ρ.F }
  have hold : ∀ r, r < w.heap.size → w'.heap[r]? = w.heap[r]? := fun r hr => by rw [e, Array.getElem?_push, if_neg (by omega)]
  have hnew : w'.heap[w.heap.size]? = some (.map #[] 0) := by rw [e]; simp
  have l : Le ρ w ρ' w' := by
    refine ⟨fun _ _ h1 => h1, fun o t h1 => ?_, fun _ h1 => h1, fun b hb => hold b (R.flt b hb)⟩
    show (if o = h.next then _ else ρ.map o) = some t
    rw [if_neg (fun e => ?_)]
    · exact h1
    · subst e; rw [(R.dom _ (Nat.le_refl _)).2] at h1; cases h1
  have st : Step ρ w ρ' w' := ⟨l, by rw [e]; simp, ho, ht, hou⟩
  have hnF : ¬ ρ.F w.heap.size := fun hf => Nat.lt_irrefl _ (R.flt _ hf)
  obtain ⟨oth, othm⟩ := R.others l w.heap.size (fun r hr _ => hold r hr) (fun _ _ _ hf => hf)
  have hlow : ∀ o ty' sz' xs' r s, h.obj o = some (.arr ty' sz' xs') → ρ.obj o = some (r, s) → r < w.heap.size := fun o ty' sz' xs' r s h1 h2 => by
    obtain ⟨r', _, h3, _, _, c, hc, _⟩ := R.arr o ty' sz' xs' h1
    rw [h2] at h3
    injection h3 with h3
    injection h3 with h3 _
    subst h3
    exact heap_lt hc
  have hlowm : ∀ o es cl r, h.obj o = some (.map es cl) → ρ.map o = some r → r < w.heap.size := fun o es cl r h1 h2 => by
    obtain ⟨r', ents, h3, _, h4, _⟩ := R.map o es cl h1
    rw [h2] at h3
    injection h3 with h3
    subst h3
    exact heap_lt h4
  refine ⟨ρ', st, ⟨fun o ty' sz' xs' h1 => ?_, fun m es cl h1 => ?_, fun o o' ty1 sz1 xs1 ty2 sz2 xs2 r s s' h1 h2 h3 h4 => ?_, fun o o' es cl es' cl' r h1 h2 h3 h4 => ?_, fun o h1 => ?_, fun g => (R.glo g).mono l, fun r hr => ?_⟩, if_pos rfl⟩
  · simp only [Heap.alloc] at h1
    split at h1
    · cases h1
    · obtain ⟨r, nb, _, h3, h4, h5⟩ := oth o ty' sz' xs' h1 (fun s h2 => Nat.lt_irrefl _ (hlow o _ _ _ _ _ h1 h2))
      exact ⟨r, nb, h3, h4, h5⟩
  · simp only [Heap.alloc] at h1
    split at h1
    · rename_i eo
      injection h1 with h1
      injection h1 with h1 h2
      subst h1 h2
      exact ⟨w.heap.size, #[], if_pos eo, hnF, hnew, rfl, fun j e he => by simp at he⟩
    · obtain ⟨r, ents, _, h3, h4, h5, h6⟩ := othm m es cl h1 (fun h2 => Nat.lt_irrefl _ (hlowm m _ _ _ h1 h2))
      exact ⟨r, ents, h3, h4, h5, h6⟩
  · simp only [Heap.alloc] at h1 h2
    by_cases e1 : o = h.next
    · rw [if_pos e1] at h1; cases h1
    · by_cases e2 : o' = h.next
      · rw [if_pos e2] at h2; cases h2
      · rw [if_neg e1] at h1
        rw [if_neg e2] at h2
        exact R.injA o o' _ _ _ _ _ _ r s s' h1 h2 h3 h4
  · simp only [Heap.alloc] at h1 h2
    change (if o = h.next then _ else ρ.map o) = _ at h3
    change (if o' = h.next then _ else ρ.map o') = _ at h4
    by_cases e1 : o = h.next <;> by_cases e2 : o' = h.next
    · rw [e1, e2]
    · rw [if_pos e1] at h3
      rw [if_neg e2] at h2 h4
      injection h3 with h3
      subst h3
      exact absurd (hlowm o' _ _ _ h2 h4) (Nat.lt_irrefl _)
    · rw [if_pos e2] at h4
      rw [if_neg e1] at h1 h3
      injection h4 with h4
      subst h4
      exact absurd (hlowm o _ _ _ h1 h3) (Nat.lt_irrefl _)
    · rw [if_neg e1] at h1 h3
      rw [if_neg e2] at h2 h4
      exact R.injM o o' _ _ _ _ r h1 h2 h3 h4
  · have : h.next + 1 ≤ o := h1
    refine ⟨(R.dom o (by omega)).1, ?_⟩
    show (if o = h.next then _ else ρ.map o) = none
    rw [if_neg (by omega)]
    exact (R.dom o (by omega)).2
  · have := R.flt r hr
    rw [e]
    simp
    omega

theorem Heap.set_obj {h : Heap} {p o : Nat} {x y : Ob} (e : (h.set p x).obj o = some y) : (o = p ∧ y = x ∧ (h.obj p).isSome = true) ∨ (o ≠ p ∧ h.obj o = some y) := by
  simp only [Heap.set] at e
  split at e
  · rename_i eo
    cases hp : h.obj p with
    | none => rw [hp] at e; cases e
    | some z => rw [hp] at e; simp at e; exact .inl ⟨eo, e.symm, rfl⟩
  · rename_i eo
    exact .inr ⟨eo, e⟩

/-- A row's block is written. -/
theorem Rel.setArr (R : Rel G ρ h w) (o ty sz : Nat) (xs xs' : List V) (r nb : Nat) (cells : Array Value) (w' : World) (hob : h.obj o = some (.arr ty sz xs)) (hρ : ρ.obj o = some (r, sz, nb)) (hcs : cells.size = nb)
    (e1 : w'.heap[r]? = some (.cells cells ty (0, 0))) (e2 : ∀ k, k ≠ r → w'.heap[k]? = w.heap[k]?) (esz : w'.heap.size = w.heap.size)
    (hs : ∀ x ∈ xs', x.sane = true ∧ x.cells.length = sz) (hv : ∀ (j : Nat) (u : V), (xs'.flatMap V.cells)[j]? = some u → ∃ v : Value, cells[j]? = some v ∧ RV ρ w u v)
    (ho : w'.os = w.os) (ht : w'.tape = w.tape) (hou : w'.output = w.output) : Step ρ w ρ w' ∧ Rel G ρ (h.set o (.arr ty sz xs')) w' := by
  obtain ⟨r', nb', h3, hnF, _, c, hc, hnb, _⟩ := R.arr o ty sz xs hob
  rw [hρ] at h3
  injection h3 with h3
  injection h3 with h3 h3n
  injection h3n with _ h3n
  subst h3 h3n
  have l : Le ρ w ρ w' := ⟨fun _ _ h1 => h1, fun _ _ h1 => h1, fun _ h1 => h1, fun b hb => e2 b (fun e => hnF (e ▸ hb))⟩
  have st : Step ρ w ρ w' := ⟨l, Nat.le_of_eq esz.symm, ho, ht, hou⟩
  obtain ⟨oth, othm⟩ := R.others l r (fun k _ hk => e2 k hk) (fun _ _ _ hf => hf)
  refine ⟨st, ⟨fun o' ty' sz' xs1 h1 => ?_, fun m es cl h1 => ?_, fun o1 o2 ty1 sz1 xs1 ty2 sz2 xs2 k s s' h1 h2 h3 h4 => ?_, fun o1 o2 es cl es' cl' k h1 h2 h3 h4 => ?_, R.dom, fun g => (R.glo g).mono l, fun k hk => by rw [esz]; exact R.flt k hk⟩⟩
  · rcases Heap.set_obj h1 with ⟨rfl, h1, _⟩ | ⟨hne, h1⟩
    · injection h1 with h1 h2 h3
      subst h1 h2 h3
      refine ⟨r, nb, hρ, hnF, hs, cells, e1, hcs, fun j u hu => ?_⟩
      obtain ⟨v, hj, hr⟩ := hv j u hu
      exact ⟨v, hj, hr.mono l⟩
    · obtain ⟨k, kb, _, h3, h4, h5⟩ := oth o' ty' sz' xs1 h1 (fun s h2 => hne (R.injA o' o _ _ _ _ _ _ r s _ h1 hob h2 hρ))
      exact ⟨k, kb, h3, h4, h5⟩
  · rcases Heap.set_obj h1 with ⟨rfl, h1, _⟩ | ⟨hne, h1⟩
    · cases h1
    · obtain ⟨k, ents, _, h3, h4, h5, h6⟩ := othm m es cl h1 (fun h2 => by
        obtain ⟨k, ents, h3, _, h4, _⟩ := R.map m es cl h1
        rw [h2] at h3
        injection h3 with h3
        subst h3
        rw [hc] at h4
        cases h4)
      exact ⟨k, ents, h3, h4, h5, h6⟩
  · have q1 : ∃ ty sz xs, h.obj o1 = some (.arr ty sz xs) := by
      rcases Heap.set_obj h1 with ⟨rfl, _, _⟩ | ⟨_, h1⟩
      · exact ⟨_, _, _, hob⟩
      · exact ⟨_, _, _, h1⟩
    have q2 : ∃ ty sz xs, h.obj o2 = some (.arr ty sz xs) := by
      rcases Heap.set_obj h2 with ⟨rfl, _, _⟩ | ⟨_, h2⟩
      · exact ⟨_, _, _, hob⟩
      · exact ⟨_, _, _, h2⟩
    obtain ⟨_, _, _, q1⟩ := q1
    obtain ⟨_, _, _, q2⟩ := q2
    exact R.injA o1 o2 _ _ _ _ _ _ k s s' q1 q2 h3 h4
  · rcases Heap.set_obj h1 with ⟨rfl, h1, _⟩ | ⟨_, h1⟩
    · cases h1
    · rcases Heap.set_obj h2 with ⟨rfl, h2, _⟩ | ⟨_, h2⟩
      · cases h2
      · exact R.injM o1 o2 _ _ _ _ k h1 h2 h3 h4

/-- A map's block is written. -/
theorem Rel.setMap (R : Rel G ρ h w) (m : Nat) (es es' : List En) (cl cl' r : Nat) (ents : Array MapEntry) (w' : World) (hob : h.obj m = some (.map es cl)) (hρ : ρ.map m = some r)
    (e1 : w'.heap[r]? = some (.map ents cl')) (e2 : ∀ k, k ≠ r → w'.heap[k]? = w.heap[k]?) (esz : w'.heap.size = w.heap.size) (hv : EntsOk ρ w es' ents)
    (ho : w'.os = w.os) (ht : w'.tape = w.tape) (hou : w'.output = w.output) : Step ρ w ρ w' ∧ Rel G ρ (h.set m (.map es' cl')) w' := by
  obtain ⟨r', en0, h3, hnF, hc, _⟩ := R.map m es cl hob
  rw [hρ] at h3
  injection h3 with h3
  subst h3
  have l : Le ρ w ρ w' := ⟨fun _ _ h1 => h1, fun _ _ h1 => h1, fun _ h1 => h1, fun b hb => e2 b (fun e => hnF (e ▸ hb))⟩
  have st : Step ρ w ρ w' := ⟨l, Nat.le_of_eq esz.symm, ho, ht, hou⟩
  obtain ⟨oth, othm⟩ := R.others l r (fun k _ hk => e2 k hk) (fun _ _ _ hf => hf)
  refine ⟨st, ⟨fun o' ty' sz' xs1 h1 => ?_, fun m1 es1 cl1 h1 => ?_, fun o1 o2 ty1 sz1 xs1 ty2 sz2 xs2 k s s' h1 h2 h3 h4 => ?_, fun o1 o2 es1 cl1 es2 cl2 k h1 h2 h3 h4 => ?_, R.dom, fun g => (R.glo g).mono l, fun k hk => by rw [esz]; exact R.flt k hk⟩⟩
  · rcases Heap.set_obj h1 with ⟨rfl, h1, _⟩ | ⟨hne, h1⟩
    · cases h1
    · obtain ⟨k, kb, _, h3, h4, h5⟩ := oth o' ty' sz' xs1 h1 (fun s h2 => by
        obtain ⟨k, _, h3, _, _, c, h4, _⟩ := R.arr o' ty' sz' xs1 h1
        rw [h2] at h3
        injection h3 with h3
        injection h3 with h3 _
        subst h3
        rw [hc] at h4
        cases h4)
      exact ⟨k, kb, h3, h4, h5⟩
  · rcases Heap.set_obj h1 with ⟨rfl, h1, _⟩ | ⟨hne, h1⟩
    · injection h1 with h1 h2
      subst h1 h2
      exact ⟨r, ents, hρ, hnF, e1, hv.mono l⟩
    · obtain ⟨k, en, _, h3, h4, h5, h6⟩ := othm m1 es1 cl1 h1 (fun h2 => hne (R.injM m1 m _ _ _ _ r h1 hob h2 hρ))
      exact ⟨k, en, h3, h4, h5, h6⟩
  · rcases Heap.set_obj h1 with ⟨rfl, h1, _⟩ | ⟨_, h1⟩
    · cases h1
    · rcases Heap.set_obj h2 with ⟨rfl, h2, _⟩ | ⟨_, h2⟩
      · cases h2
      · exact R.injA o1 o2 _ _ _ _ _ _ k s s' h1 h2 h3 h4
  · have q1 : ∃ es cl, h.obj o1 = some (.map es cl) := by
      rcases Heap.set_obj h1 with ⟨rfl, _, _⟩ | ⟨_, h1⟩
      · exact ⟨_, _, hob⟩
      · exact ⟨_, _, h1⟩
    have q2 : ∃ es cl, h.obj o2 = some (.map es cl) := by
      rcases Heap.set_obj h2 with ⟨rfl, _, _⟩ | ⟨_, h2⟩
      · exact ⟨_, _, hob⟩
      · exact ⟨_, _, h2⟩
    obtain ⟨_, _, q1⟩ := q1
    obtain ⟨_, _, q2⟩ := q2
    exact R.injM o1 o2 _ _ _ _ k q1 q2 h3 h4

theorem Heap.kill_obj {h : Heap} {p o : Nat} {y : Ob} (e : (h.kill p).obj o = some y) : o ≠ p ∧ h.obj o = some y := by
  simp only [Heap.kill] at e
  split at e
  · cases e
  · rename_i eo
    exact ⟨eo, e⟩

theorem Rel.kill (R : Rel G ρ h w) (p : Nat) : Rel G ρ (h.kill p) w :=
  ⟨fun o ty sz xs h1 => R.arr o ty sz xs (Heap.kill_obj h1).2, fun m es cl h1 => R.map m es cl (Heap.kill_obj h1).2,
   fun o o' _ _ _ _ _ _ r s s' h1 h2 h3 h4 => R.injA o o' _ _ _ _ _ _ r s s' (Heap.kill_obj h1).2 (Heap.kill_obj h2).2 h3 h4,
   fun o o' _ _ _ _ r h1 h2 h3 h4 => R.injM o o' _ _ _ _ r (Heap.kill_obj h1).2 (Heap.kill_obj h2).2 h3 h4, R.dom, R.glo, R.flt⟩

/-- A row is written no more: its block is held. -/
theorem Rel.hold (R : Rel G ρ h w) (o ty sz : Nat) (xs : List V) (r nb : Nat) (hob : h.obj o = some (.arr ty sz xs)) (hρ : ρ.obj o = some (r, sz, nb)) (w' : World)
    (e2 : ∀ k, k ≠ r → w'.heap[k]? = w.heap[k]?) (esz : w'.heap.size = w.heap.size) (ho : w'.os = w.os) (ht : w'.tape = w.tape) (hou : w'.output = w.output) :
    ∃ ρ', Step ρ w ρ' w' ∧ Rel G ρ' (h.kill o) w' ∧ ρ'.F r := by
  let ρ' : Ren := { obj := ρ.obj, map := ρ.map, F := fun k => ρ.F k ∨ k = r }
  obtain ⟨r', nb', h3, hnF, _, c, hc, hnb, _⟩ := R.arr o ty sz xs hob
  rw [hρ] at h3
  injection h3 with h3
  injection h3 with h3 h3n
  injection h3n with _ h3n
  subst h3 h3n
  have l : Le ρ w ρ' w' := ⟨fun _ _ h1 => h1, fun _ _ h1 => h1, fun _ h1 => .inl h1, fun b hb => e2 b (fun e => hnF (e ▸ hb))⟩
  have st : Step ρ w ρ' w' := ⟨l, Nat.le_of_eq esz.symm, ho, ht, hou⟩
  obtain ⟨oth, othm⟩ := R.others l r (fun k _ hk => e2 k hk) (fun k _ hk hf => hf.resolve_right hk)
  refine ⟨ρ', st, ⟨fun o' ty' sz' xs1 h1 => ?_, fun m es cl h1 => ?_, (R.kill o).injA, (R.kill o).injM, R.dom, fun g => (R.glo g).mono l, fun k hk => ?_⟩, .inr rfl⟩
  · obtain ⟨hne, h1⟩ := Heap.kill_obj h1
    obtain ⟨k, kb, _, h3, h4, h5⟩ := oth o' ty' sz' xs1 h1 (fun s h2 => hne (R.injA o' o _ _ _ _ _ _ r s _ h1 hob h2 hρ))
    exact ⟨k, kb, h3, h4, h5⟩
  · obtain ⟨hne, h1⟩ := Heap.kill_obj h1
    obtain ⟨k, ents, _, h3, h4, h5, h6⟩ := othm m es cl h1 (fun h2 => by
      obtain ⟨k, ents, h3, _, h4, _⟩ := R.map m es cl h1
      rw [h2] at h3
      injection h3 with h3
      subst h3
      rw [hc] at h4
      cases h4)
    exact ⟨k, ents, h3, h4, h5, h6⟩
  · rw [esz]
    rcases hk with hk | rfl
    · exact R.flt k hk
    · exact heap_lt hc

/-- A row goes on under another number, longer, in its block. -/
theorem Rel.moveArr (R : Rel G ρ h w) (o ty sz : Nat) (xs xs' : List V) (r nb : Nat) (cells : Array Value) (w' : World) (hob : h.obj o = some (.arr ty sz xs)) (hρ : ρ.obj o = some (r, sz, nb)) (hcs : cells.size = nb)
    (e1 : w'.heap[r]? = some (.cells cells ty (0, 0))) (e2 : ∀ k, k ≠ r → w'.heap[k]? = w.heap[k]?) (esz : w'.heap.size = w.heap.size)
    (hs : ∀ x ∈ xs', x.sane = true ∧ x.cells.length = sz) (hv : ∀ (j : Nat) (u : V), (xs'.flatMap V.cells)[j]? = some u → ∃ v : Value, cells[j]? = some v ∧ RV ρ w u v)
    (ho : w'.os = w.os) (ht : w'.tape = w.tape) (hou : w'.output = w.output) :
    ∃ ρ', Step ρ w ρ' w' ∧ Rel G ρ' ((h.kill o).alloc (.arr ty sz xs')) w' ∧ ρ'.obj h.next = some (r, sz, nb) := by
  let ρ' : Ren := { obj := fun q => if q = h.next then some (r, sz, nb) else ρ.obj q, map := ρ.map, F := ρ.F }
  obtain ⟨r', nb', h3, hnF, _, c, hc, hnb, _⟩ := R.arr o ty sz xs hob
  rw [hρ] at h3
  injection h3 with h3
  injection h3 with h3 h3n
  injection h3n with _ h3n
  subst h3 h3n
  have l : Le ρ w ρ' w' := by
    refine ⟨fun q t h1 => ?_, fun _ _ h1 => h1, fun _ h1 => h1, fun b hb => e2 b (fun e => hnF (e ▸ hb))⟩
    show (if q = h.next then _ else ρ.obj q) = some t
    rw [if_neg (fun e => ?_)]
    · exact h1
    · subst e; rw [(R.dom _ (Nat.le_refl _)).1] at h1; cases h1
  have st : Step ρ w ρ' w' := ⟨l, Nat.le_of_eq esz.symm, ho, ht, hou⟩
  obtain ⟨oth, othm⟩ := R.others l r (fun k _ hk => e2 k hk) (fun _ _ _ hf => hf)
  have hon : o < h.next := Heap.lt_next hob
  refine ⟨ρ', st, ⟨fun q ty' sz' xs1 h1 => ?_, fun m es cl h1 => ?_, fun o1 o2 ty1 sz1 xs1 ty2 sz2 xs2 k s s' h1 h2 h3 h4 => ?_, fun o1 o2 es cl es' cl' k h1 h2 h3 h4 => ?_, fun q h1 => ?_, fun g => (R.glo g).mono l, fun k hk => by rw [esz]; exact R.flt k hk⟩, if_pos rfl⟩
  · change (if q = h.next then _ else (h.kill o).obj q) = _ at h1
    split at h1
    · rename_i eo
      injection h1 with h1
      injection h1 with h1 h2 h3
      subst h1 h2 h3
      refine ⟨r, nb, if_pos eo, hnF, hs, cells, e1, hcs, fun j u hu => ?_⟩
      obtain ⟨v, hj, hr⟩ := hv j u hu
      exact ⟨v, hj, hr.mono l⟩
    · obtain ⟨hne, h1⟩ := Heap.kill_obj h1
      obtain ⟨k, kb, _, h3, h4, h5⟩ := oth q ty' sz' xs1 h1 (fun s h2 => hne (R.injA q o _ _ _ _ _ _ r s _ h1 hob h2 hρ))
      exact ⟨k, kb, h3, h4, h5⟩
  · change (if m = h.next then _ else (h.kill o).obj m) = _ at h1
    split at h1
    · cases h1
    · obtain ⟨hne, h1⟩ := Heap.kill_obj h1
      obtain ⟨k, ents, _, h3, h4, h5, h6⟩ := othm m es cl h1 (fun h2 => by
        obtain ⟨k, ents, h3, _, h4, _⟩ := R.map m es cl h1
        rw [h2] at h3
        injection h3 with h3
        subst h3
        rw [hc] at h4
        cases h4)
      exact ⟨k, ents, h3, h4, h5, h6⟩
  · change (if o1 = h.next then _ else (h.kill o).obj o1) = _ at h1
    change (if o2 = h.next then _ else (h.kill o).obj o2) = _ at h2
    change (if o1 = h.next then _ else ρ.obj o1) = _ at h3
    change (if o2 = h.next then _ else ρ.obj o2) = _ at h4
    by_cases q1 : o1 = h.next <;> by_cases q2 : o2 = h.next
    · rw [q1, q2]
    · rw [if_pos q1] at h3
      rw [if_neg q2] at h2 h4
      injection h3 with h3
      injection h3 with h3 _
      subst h3
      obtain ⟨hne, h2⟩ := Heap.kill_obj h2
      exact absurd (R.injA o2 o _ _ _ _ _ _ r s' _ h2 hob h4 hρ) hne
    · rw [if_pos q2] at h4
      rw [if_neg q1] at h1 h3
      injection h4 with h4
      injection h4 with h4 _
      subst h4
      obtain ⟨hne, h1⟩ := Heap.kill_obj h1
      exact absurd (R.injA o1 o _ _ _ _ _ _ r s _ h1 hob h3 hρ) hne
    · rw [if_neg q1] at h1 h3
      rw [if_neg q2] at h2 h4
      exact R.injA o1 o2 _ _ _ _ _ _ k s s' (Heap.kill_obj h1).2 (Heap.kill_obj h2).2 h3 h4
  · change (if o1 = h.next then _ else (h.kill o).obj o1) = _ at h1
    change (if o2 = h.next then _ else (h.kill o).obj o2) = _ at h2
    by_cases q1 : o1 = h.next
    · rw [if_pos q1] at h1; cases h1
    · by_cases q2 : o2 = h.next
      · rw [if_pos q2] at h2; cases h2
      · rw [if_neg q1] at h1
        rw [if_neg q2] at h2
        exact R.injM o1 o2 _ _ _ _ k (Heap.kill_obj h1).2 (Heap.kill_obj h2).2 h3 h4
  · have : h.next + 1 ≤ q := h1
    refine ⟨?_, (R.dom q (by omega)).2⟩
    show (if q = h.next then _ else ρ.obj q) = none
    rw [if_neg (by omega)]
    exact (R.dom q (by omega)).1

end Go.Am

/- The abstract machine, 5: the instructions that look at no memory do what Go's operations do. -/
namespace Go.Am
variable {P : Program} {G : Nat → V} {ρ : Ren} {h : Heap} {w : World} {N : Nat} {a : Tm} {act : Act}

def nextV : Next → Option Value
  | .value v => some v
  | .skip => some Go.undef
  | _ => none

structure ActOk (ρ : Ren) (w : World) (N : Nat) (a : Tm) (act : Act) : Prop where
  size : act.tmps.size = N
  defers : act.defers = []
  rv : ∀ t, RV ρ w (a t) (act.tmps.getD t Go.undef)

/-- The operation runs, and comes to what the instruction says. -/
def Snd (P : Program) (G : Nat → V) (ρ : Ren) (w : World) (act : Act) (o : Oper) (v : V) (h' : Heap) : Prop :=
  ∃ nx x w' ρ', (execOp act.eval o).run P w = .ok nx w' ∧ nextV nx = some x ∧ Step ρ w ρ' w' ∧ Rel G ρ' h' w' ∧ RV ρ' w' v x

theorem Snd.pure (R : Rel G ρ h w) {o : Oper} {v : V} {x : Value} (e : (execOp act.eval o).run P w = .ok (.value x) w) (r : RV ρ w v x) : Snd P G ρ w act o v h :=
  ⟨_, x, w, ρ, e, rfl, Step.refl ρ w, R, r⟩

theorem cOne_sound {v : Value} {x : V} (e : cOne v = some x) : RV ρ w x v ∧ x.one = true := by
  unfold cOne at e
  split at e <;> first
    | (injection e with e; subst e; exact ⟨by constructor, rfl⟩)
    | cases e

theorem cList_sound {vs : List Value} : ∀ {xs : List V}, cList vs = some xs → xs.length = vs.length ∧ ∀ (j : Nat) (u : V), xs[j]? = some u → ∃ v : Value, vs[j]? = some v ∧ RV ρ w u v ∧ u.one = true := by
  induction vs with
  | nil =>
    intro xs e
    simp [cList] at e
    subst e
    exact ⟨rfl, fun j u hu => by simp at hu⟩
  | cons v vs ih =>
    intro xs e
    unfold cList at e
    split at e
    · rename_i x ys h1 h2
      injection e with e
      subst e
      obtain ⟨hl, hv⟩ := ih h2
      refine ⟨by simp [hl], fun j u hu => ?_⟩
      cases j with
      | zero =>
        simp at hu
        subst hu
        obtain ⟨r, o⟩ := cOne_sound (ρ := ρ) (w := w) h1
        exact ⟨v, rfl, r, o⟩
      | succ j => exact hv j u (by simpa using hu)
    · cases e

theorem cV_sound {v : Value} {x : V} (e : cV v = some x) : RV ρ w x v ∧ x.sane = true := by
  unfold cV at e
  split at e
  · rename_i cs
    rw [Option.map_eq_some_iff] at e
    obtain ⟨xs, hx, rfl⟩ := e
    obtain ⟨hl, hv⟩ := cList_sound (ρ := ρ) (w := w) hx
    refine ⟨.agg xs cs (by simpa using hl.symm) (fun j u hu => ?_), ?_⟩
    · obtain ⟨v, h1, h2, _⟩ := hv j u hu
      have : cs.getD j Go.undef = v := by
        have : cs[j]? = some v := by simpa using h1
        simp [Array.getD_eq_getD_getElem?, this]
      rw [this]
      exact h2
    · simp only [V.sane, List.all_eq_true]
      intro u hu
      obtain ⟨j, hj⟩ := List.mem_iff_getElem?.1 hu
      obtain ⟨_, _, _, h3⟩ := hv j u hj
      exact h3
  · obtain ⟨r, o⟩ := cOne_sound (ρ := ρ) (w := w) e
    refine ⟨r, ?_⟩
    cases x <;> simp_all [V.one, V.sane]

theorem ev_sound (R : Rel G ρ h w) (A : ActOk ρ w N a act) {x : Operand} {y : Opd} (e : cOpd x = some y) : RV ρ w (y.ev G a) (act.eval x) := by
  unfold cOpd at e
  split at e
  · injection e with e; subst e; exact A.rv _
  · rw [Option.map_eq_some_iff] at e
    obtain ⟨c, hc, rfl⟩ := e
    exact (cV_sound hc).1
  · injection e with e; subst e; exact R.glo _
  · injection e with e; subst e; exact .fn _ _ _ rfl (fun j u hu => by simp at hu)

theorem evs_sound (R : Rel G ρ h w) (A : ActOk ρ w N a act) {xs : List Operand} : ∀ {ys : List Opd}, cOpds xs = some ys →
    ys.length = xs.length ∧ ∀ (j : Nat) (u : V), (ys.map (·.ev G a))[j]? = some u → ∃ v : Value, (xs.map act.eval)[j]? = some v ∧ RV ρ w u v := by
  induction xs with
  | nil => intro ys e; simp [cOpds] at e; subst e; exact ⟨rfl, fun j u hu => by simp at hu⟩
  | cons x xs ih =>
    intro ys e
    unfold cOpds at e
    split at e
    · rename_i y zs h1 h2
      injection e with e
      subst e
      obtain ⟨hl, hv⟩ := ih h2
      refine ⟨by simp [hl], fun j u hu => ?_⟩
      cases j with
      | zero => simp at hu; subst hu; exact ⟨_, rfl, ev_sound R A h1⟩
      | succ j => exact hv j u (by simpa using hu)
    · cases e

theorem RV.list {xs : List V} {vs : List Value} (hl : xs.length = vs.length) (hv : ∀ (j : Nat) (u : V), xs[j]? = some u → ∃ v : Value, vs[j]? = some v ∧ RV ρ w u v) :
    vs.toArray.size = xs.length ∧ ∀ (j : Nat) (u : V), xs[j]? = some u → RV ρ w u (vs.toArray.getD j Go.undef) := by
  refine ⟨by simp [hl], fun j u hu => ?_⟩
  obtain ⟨v, h1, h2⟩ := hv j u hu
  have : vs.toArray.getD j Go.undef = v := by simp [Array.getD_eq_getD_getElem?, h1]
  rw [this]
  exact h2

theorem szT_some {t : TypeId} {n : Nat} (e : szT P t = some n) : ∃ i, P.info? t = some i ∧ i.size = n := by
  unfold szT at e
  rw [Option.map_eq_some_iff] at e
  exact e

theorem zeroT_some {t : TypeId} {z : V} (e : zeroT P t = some z) : ∃ i v, P.info? t = some i ∧ i.zero = some v ∧ cV v = some z := by
  unfold zeroT at e
  rw [Option.bind_eq_some_iff] at e
  obtain ⟨v, h1, h2⟩ := e
  rw [Option.bind_eq_some_iff] at h1
  obtain ⟨i, h3, h4⟩ := h1
  exact ⟨i, v, h3, h4, h2⟩

theorem run_sizeOf {t : TypeId} {i : TypeInfo} (e : P.info? t = some i) (w : World) : (sizeOf t).run P w = .ok i.size w := by simp [sizeOf, typeInfo, e]
theorem run_zeroValue {t : TypeId} {i : TypeInfo} {v : Value} (e : P.info? t = some i) (z : i.zero = some v) (w : World) : (zeroValue t).run P w = .ok v w := by simp [zeroValue, typeInfo, e, z]

theorem aggT_some {t : TypeId} {b : Bool} (e : aggT P t = some b) (w : World) : (isAgg t).run P w = .ok b w := by
  unfold aggT at e
  rw [Option.map_eq_some_iff] at e
  obtain ⟨d, hd, rfl⟩ := e
  unfold isAgg
  rw [Sem.run_bind, run_underlying hd w]
  cases d <;> simp [isAggD]

/-! ### numbers and the like -/

theorem sound_bin (R : Rel G ρ h w) {op : BinOp} {t ty : TypeId} {x y : Operand} {b c : V} {v : V} {o : Oper} (ho : o.op = .binOp op t x y ty)
    (hx : RV ρ w b (act.eval x)) (hy : RV ρ w c (act.eval y)) (hs : binV op b c = some v) : Snd P G ρ w act o v h := by
  have key : ∀ u : Value, RV ρ w v u → (eqGuard op t x y (act.eval x) (act.eval y) >>= fun _ => binOp op t (act.eval x) (act.eval y)).run P w = .ok u w → Snd P G ρ w act o v h := by
    intro u hr hu
    refine Snd.pure R (x := u) ?_ hr
    simp only [execOp, ho]
    rw [Sem.run_bind, hu]
    rfl
  generalize act.eval x = vx at hx key
  generalize act.eval y = vy at hy key
  unfold binV at hs
  split at hs <;> first | (cases hs; done) | skip
  all_goals
    cases hx
    cases hy
  all_goals first
    | (split at hs
       · cases hs
       · rename_i hneg
         injection hs with hs
         subst hs
         exact key _ (.int _ _) (by simp [eqGuard, binOp, Op.shift, hneg]))
    | (split at hs
       · rename_i hk
         injection hs with hs
         subst hs
         first
           | (subst hk; exact key _ (by constructor) (by simp [eqGuard, binOp, Op.intArith, Op.intBits, Op.intCmp]))
           | (obtain ⟨hk, hne⟩ := hk; subst hk; exact key _ (by constructor) (by simp [eqGuard, binOp, Op.intDiv, hne]))
       · cases hs)
    | (injection hs with hs
       subst hs
       exact key _ (by constructor) (by simp [eqGuard, binOp, Op.stringOp]))

theorem sound_un (R : Rel G ρ h w) {op : UnOp} {t : TypeId} {x : Operand} {b v : V} {o : Oper} (ho : o.op = .unOp op t x) (hx : RV ρ w b (act.eval x)) (hs : unV op b = some v) : Snd P G ρ w act o v h := by
  have key : ∀ u : Value, RV ρ w v u → (Op.unary op (act.eval x)).run P w = .ok u w → Snd P G ρ w act o v h := by
    intro u hr hu
    refine Snd.pure R (x := u) ?_ hr
    simp only [execOp, ho]
    rw [Sem.run_bind, hu]
    rfl
  generalize act.eval x = vx at hx key
  unfold unV at hs
  split at hs <;> first | (cases hs; done) | skip
  all_goals
    cases hx
    injection hs with hs
    subst hs
    exact key _ (by constructor) (by simp [Op.unary, Op.intArith, Op.intBits])

/-! ### the small ones -/

theorem sound_mov (R : Rel G ρ h w) {x : Operand} {b : V} {o : Oper} (ho : o.op = .move x ∨ o.op = .assign x) (hx : RV ρ w b (act.eval x)) : Snd P G ρ w act o b h := by
  refine Snd.pure R (x := act.eval x) ?_ hx
  rcases ho with ho | ho <;> simp [execOp, ho]

theorem sound_pick (R : Rel G ρ h w) {c x y : Operand} {e : Bool} {b d : V} {o : Oper} (ho : o.op = .pick c x y) (hc : RV ρ w (.bool e) (act.eval c)) (hx : RV ρ w b (act.eval x)) (hy : RV ρ w d (act.eval y)) :
    Snd P G ρ w act o (if e then b else d) h := by
  have he : act.eval c = .bool e := by
    generalize act.eval c = u at hc
    cases hc
    rfl
  refine Snd.pure R (x := if e then act.eval x else act.eval y) ?_ (by cases e <;> simpa)
  simp [execOp, ho, he, asBool]

theorem sound_nilck (R : Rel G ρ h w) {x : Operand} {b v : V} {o : Oper} (ho : o.op = .nilCheck x) (hx : RV ρ w b (act.eval x))
    (hs : stepI G a h (.nilck (.c b)) = some (v, h)) : Snd P G ρ w act o v h := by
  have key : (execOp act.eval o).run P w = .ok (.value (act.eval x)) w ∧ b = v := by
    simp only [stepI, Opd.ev] at hs
    generalize hu : act.eval x = u at hx
    split at hs <;> first | (cases hs; done) | skip
    all_goals
      injection hs with hs
      injection hs with hs _
      subst hs
      cases hx
      exact ⟨by simp [execOp, ho, hu], rfl⟩
  obtain ⟨k1, rfl⟩ := key
  exact Snd.pure R k1 hx

theorem sound_conv (R : Rel G ρ h w) {src dst : TypeId} {x : Operand} {k k' ks : IntKind} {n : Int} {o : Oper} (ho : o.op = .convert src dst x) (h1 : P.underlying src = some (.int ks)) (h2 : P.underlying dst = some (.int k))
    (hx : RV ρ w (.int k' n) (act.eval x)) : Snd P G ρ w act o (.int k (k.wrap n)) h := by
  have he : act.eval x = .int k' n := by
    generalize act.eval x = u at hx
    cases hx
    rfl
  refine Snd.pure R (x := .int k (k.wrap n)) ?_ (.int _ _)
  simp [execOp, ho, he, convert, run_underlying h1, run_underlying h2, Conv.intToInt]

theorem sound_extract (R : Rel G ρ h w) {x : Operand} {i : Nat} {vs : List V} {v : V} {o : Oper} (ho : o.op = .extract x i) (hx : RV ρ w (.tup vs) (act.eval x)) (hv : vs[i]? = some v) : Snd P G ρ w act o v h := by
  generalize hu : act.eval x = u at hx
  cases hx with
  | tup _ us hl hr =>
    have hlt : i < us.size := by rw [hl]; exact (List.getElem?_eq_some_iff.1 hv).1
    refine Snd.pure R (x := us.getD i Go.undef) ?_ (hr i v hv)
    simp [execOp, ho, hu, Instr.extract, hlt]

theorem sound_iface (R : Rel G ρ h w) {t : TypeId} {d : TypeDesc} {x : Operand} {b : V} {o : Oper} (ho : o.op = .makeInterface t x) (h1 : P.underlying t = some d) (h2 : ∀ ms, d ≠ .interface ms)
    (hx : RV ρ w b (act.eval x)) : Snd P G ρ w act o (.iface t b) h := by
  refine Snd.pure R (x := .iface t (act.eval x)) ?_ (.iface _ _ _ hx)
  simp only [execOp, ho, Instr.makeInterface]
  rw [Sem.run_bind, Sem.run_bind, run_underlying h1]
  cases d <;> simp_all

theorem RV.int_inv {k : IntKind} {n : Int} {x : Value} (r : RV ρ w (.int k n) x) : x = .int k n := by cases r; rfl
theorem RV.bool_inv {b : Bool} {x : Value} (r : RV ρ w (.bool b) x) : x = .bool b := by cases r; rfl

theorem sound_minmax (R : Rel G ρ h w) {mx : Bool} {x y : Operand} {k : IntKind} {m n : Int} {c : Call} {o : Oper} (ho : o.op = .call c) (hc : c.callee = .builtin (if mx then .max else .min)) (hargs : c.args = #[x, y])
    (hx : RV ρ w (.int k m) (act.eval x)) (hy : RV ρ w (.int k n) (act.eval y)) :
    Snd P G ρ w act o (.int k (if mx then (if n > m then n else m) else (if n < m then n else m))) h := by
  have e1 := hx.int_inv
  have e2 := hy.int_inv
  refine Snd.pure R (x := .int k (if mx then (if n > m then n else m) else (if n < m then n else m))) ?_ (.int _ _)
  cases mx <;> simp [execOp, ho, resolve, hc, hargs, invoke, builtin, Builtin.min_, Builtin.max_, Builtin.min2, Builtin.max2, e1, e2]

theorem sound_mkfn (R : Rel G ρ h w) (A : ActOk ρ w N a act) {f : FuncId} {first captured : Array Operand} {ys : List Opd} {o : Oper} (ho : o.op = .makeFunc (.func f) first captured) (h0 : first.size = 0) (hc : cOpds captured.toList = some ys) :
    Snd P G ρ w act o (.fn f (ys.map (·.ev G a))) h := by
  obtain ⟨hl, hv⟩ := evs_sound R A hc
  have h00 : first = #[] := Array.eq_empty_of_size_eq_zero h0
  subst h00
  refine Snd.pure R (x := .func (.func f) #[] (captured.map act.eval)) ?_ (.fn _ _ _ (by simpa using hl.symm) (fun j u hu => ?_))
  · simp [execOp, ho, Instr.makeFunc]
  · obtain ⟨v, h1, h2⟩ := hv j u hu
    have : (captured.map act.eval).getD j Go.undef = v := by
      have : (captured.map act.eval)[j]? = some v := by simpa using h1
      simp [Array.getD_eq_getD_getElem?, this]
    rw [this]
    exact h2

theorem sound_eq (R : Rel G ρ h w) {neg : Bool} {t ty : TypeId} {x y : Operand} {k : EqK} {b c : V} {r : Bool} {o : Oper} (ho : o.op = .binOp (if neg then .neq else .eql) t x y ty) (hk : ∀ n, k ≠ .ints n)
    (hd : match k with | .bool => P.underlying t = some .bool | .ptr => ∃ e, P.underlying t = some (.pointer e) | .map => ∃ a e, P.underlying t = some (.map a e) | .func => ∃ a b c, P.underlying t = some (.func a b c) | .ints _ => True)
    (hx : RV ρ w b (act.eval x)) (hy : RV ρ w c (act.eval y)) (hs : eqV k b c = some r) : Snd P G ρ w act o (.bool (neg != r)) h := by
  generalize hu : act.eval x = u at hx
  generalize hv : act.eval y = v at hy
  have key : (eqGuard (if neg then .neq else .eql) t x y u v = Pure.pure ()) → (∀ d, (Op.equalIn (d + 1) t u v).run P w = .ok r w) →
      (binOp .eql t u v = (Op.equal t u v >>= fun b => Pure.pure (.bool b))) → (binOp .neq t u v = (Op.equal t u v >>= fun b => Pure.pure (.bool (!b)))) → Snd P G ρ w act o (.bool (neg != r)) h := by
    intro h1 h2 h3 h4
    have h5 : (Op.equal t u v).run P w = .ok r w := h2 9999
    refine Snd.pure R (x := .bool (neg != r)) ?_ (.bool _)
    simp only [execOp, ho, hu, hv, h1]
    cases neg
    · simp [h3, h5]
    · simp [h4, h5]
  unfold eqV at hs
  split at hs <;> first | (cases hs; done) | skip
  all_goals first
    | (exact absurd rfl (hk _))
    | skip
  all_goals
    injection hs with hs
    subst hs
    cases hx
    cases hy
    first
      | (simp only at hd
         refine key (by cases neg <;> rfl) (fun d => ?_) rfl rfl
         first
           | (simp [Op.equalIn, run_underlying hd]; done)
           | (obtain ⟨_, hd⟩ := hd; simp [Op.equalIn, run_underlying hd]; done)
           | (obtain ⟨_, _, hd⟩ := hd; simp [Op.equalIn, run_underlying hd]; done)
           | (obtain ⟨_, _, _, hd⟩ := hd; simp [Op.equalIn, run_underlying hd]; done))

end Go.Am

/- The abstract machine, 6: reading and writing memory. -/
namespace Go.Am
variable {P : Program} {G : Nat → V} {ρ : Ren} {h : Heap} {w : World} {N : Nat} {a : Tm} {act : Act}

theorem cell_at {w : World} {r : Nat} {cells : Array Value} {ty : TypeId} {fr : Nat × Nat} (e : w.heap[r]? = some (.cells cells ty fr)) (j : Nat) : w.cell? ⟨r, j, none⟩ = cells[j]? := by simp [World.cell?, e]

theorem RV.ptr_inv {o i sub : Nat} {x : Value} (r : RV ρ w (.ptr o i sub) x) : ∃ b s nb, ρ.obj o = some (b, s, nb) ∧ x = .pointer (some ⟨b, i * s + sub, none⟩) := by
  cases r
  exact ⟨_, _, _, ‹_›, rfl⟩

/-- A cell of an element of an object, in Go's memory. -/
theorem Rel.cellAt (R : Rel G ρ h w) {o ty sz : Nat} {xs : List V} (e : h.obj o = some (.arr ty sz xs)) {r s nb : Nat} (hρ : ρ.obj o = some (r, s, nb)) {i : Nat} {x : V} (hx : xs[i]? = some x) {j : Nat} {u : V} (hu : x.cells[j]? = some u) :
    s = sz ∧ ∃ v, w.cell? ⟨r, i * s + j, none⟩ = some v ∧ RV ρ w u v := by
  obtain ⟨r', nb', h1, _, hs, cells, hc, hnb, hv⟩ := R.arr o ty sz xs e
  rw [hρ] at h1
  injection h1 with h1
  injection h1 with h1 h2
  injection h2 with h2 h3
  subst h1 h2
  have hj : j < s := by
    have := (hs x (List.mem_of_getElem? hx)).2
    have := (List.getElem?_eq_some_iff.1 hu).1
    omega
  obtain ⟨v, q1, q2⟩ := hv (i * s + j) u (by rw [flat_at xs s (fun y hy => (hs y hy).2) i x hx j hj]; exact hu)
  exact ⟨rfl, v, by rw [cell_at hc]; exact q1, q2⟩

theorem choose_cells {w : World} {r off : Nat} {cs : List V} (hc : ∀ (j : Nat) (u : V), cs[j]? = some u → ∃ v : Value, w.cell? ⟨r, off + j, none⟩ = some v ∧ RV ρ w u v) :
    ∃ vs : List Value, vs.length = cs.length ∧ (∀ (j : Nat) (v : Value), vs[j]? = some v → w.cell? ⟨r, off + j, none⟩ = some v) ∧ ∀ (j : Nat) (u : V), cs[j]? = some u → ∃ v : Value, vs[j]? = some v ∧ RV ρ w u v := by
  induction cs generalizing off with
  | nil => exact ⟨[], rfl, fun j v hv => by simp at hv, fun j u hu => by simp at hu⟩
  | cons c cs ih =>
    obtain ⟨v0, q1, q2⟩ := hc 0 c rfl
    obtain ⟨vs, l, k1, k2⟩ := ih (off := off + 1) (fun j u hu => by
      obtain ⟨v, p1, p2⟩ := hc (j + 1) u (by simpa using hu)
      exact ⟨v, by rw [show off + 1 + j = off + (j + 1) from by omega]; exact p1, p2⟩)
    refine ⟨v0 :: vs, by simp [l], fun j v hv => ?_, fun j u hu => ?_⟩
    · cases j with
      | zero => simp at hv; subst hv; exact q1
      | succ j => rw [show off + (j + 1) = off + 1 + j from by omega]; exact k1 j v (by simpa using hv)
    · cases j with
      | zero => simp at hu; subst hu; exact ⟨v0, rfl, q2⟩
      | succ j => exact k2 j u (by simpa using hu)

/-- A variable is read: where its cells are known. -/
theorem run_loadVar_cells {t : TypeId} {b : Bool} {n : Nat} (h1 : aggT P t = some b) (h2 : szT P t = some n) {r off : Nat} {cs : List V} (hl : cs.length = n)
    (hc : ∀ (j : Nat) (u : V), cs[j]? = some u → ∃ v : Value, w.cell? ⟨r, off + j, none⟩ = some v ∧ RV ρ w u v) (hb : b = false → 0 < n) :
    ∃ x, (loadVar t ⟨r, off, none⟩).run P w = .ok x w ∧ if b then RV ρ w (.agg cs) x else ∀ u, cs[0]? = some u → RV ρ w u x := by
  obtain ⟨i, hi, hn⟩ := szT_some h2
  have hagg := aggT_some h1 w
  cases b with
  | true =>
    obtain ⟨vs, l, k1, k2⟩ := choose_cells hc
    have hlc : (loadCells ⟨r, off, none⟩ vs.length).run P w = .ok vs.toArray w := run_loadCells_list (P := P) w ⟨r, off, none⟩ vs (fun j v hv => by rw [Addr.add_mid]; exact k1 j v hv)
    rw [l, hl, ← hn] at hlc
    refine ⟨.agg vs.toArray, ?_, ?_⟩
    · simp [loadVar, hagg, run_sizeOf hi, hlc]
    · obtain ⟨q1, q2⟩ := RV.list (ρ := ρ) (w := w) l.symm k2
      exact .agg _ _ q1 q2
  | false =>
    have h0 : 0 < cs.length := by rw [hl]; exact hb rfl
    obtain ⟨v, q1, q2⟩ := hc 0 cs[0] (List.getElem?_eq_getElem h0)
    refine ⟨v, ?_, ?_⟩
    · have q1' : w.cell? ⟨r, off, none⟩ = some v := by simpa using q1
      simp [loadVar, hagg, q1']
    · intro u hu
      rw [List.getElem?_eq_getElem h0] at hu
      injection hu with hu
      subst hu
      exact q2

theorem load_run (R : Rel G ρ h w) {t : TypeId} {b : Bool} {n : Nat} {u0 : Value} {p v : V} (h1 : aggT P t = some b) (h2 : szT P t = some n)
    (hx : RV ρ w p u0) (hs : loadV h b n p = some v) : ∃ r off y, u0 = .pointer (some ⟨r, off, none⟩) ∧ (loadVar t ⟨r, off, none⟩).run P w = .ok y w ∧ RV ρ w v y := by
  have key : ∀ (r off : Nat) (y : Value), u0 = .pointer (some ⟨r, off, none⟩) → (loadVar t ⟨r, off, none⟩).run P w = .ok y w → RV ρ w v y → ∃ r off y, u0 = .pointer (some ⟨r, off, none⟩) ∧ (loadVar t ⟨r, off, none⟩).run P w = .ok y w ∧ RV ρ w v y :=
    fun r off y hu hy hr => ⟨r, off, y, hu, hy, hr⟩
  obtain ⟨i, hi, hn⟩ := szT_some h2
  have hagg := aggT_some h1 w
  unfold loadV at hs
  split at hs
  · rename_i o' i' sub
    obtain ⟨r, s, nb, hρ, hu⟩ := hx.ptr_inv
    split at hs
    · rename_i ty sz xs hob
      split at hs
      · rename_i e he
        split at hs
        · rename_i hb
          split at hs
          · rename_i hle
            injection hs with hs
            subst hs
            subst hb
            obtain ⟨y, hy, hr⟩ := run_loadVar_cells (ρ := ρ) (P := P) (w := w) (r := r) (off := i' * s + sub) (cs := (e.cells.drop sub).take n) h1 h2 (by simp; omega) (fun j u hu => by
              rw [List.getElem?_take] at hu
              split at hu
              · rw [List.getElem?_drop] at hu
                obtain ⟨_, v, q1, q2⟩ := R.cellAt hob hρ he hu
                exact ⟨v, by rw [show i' * s + sub + j = i' * s + (sub + j) from by omega]; exact q1, q2⟩
              · cases hu) (fun e => by cases e)
            exact key _ _ y hu hy hr
          · cases hs
        · rename_i hb
          have hb' : b = false := by simpa using hb
          subst hb'
          obtain ⟨_, y, q1, q2⟩ := R.cellAt hob hρ he hs
          exact key _ _ y hu (by simp [loadVar, hagg, q1]) q2
      · cases hs
    · cases hs
  · rename_i cs
    obtain ⟨u, hu, hx⟩ : ∃ u, u0 = u ∧ RV ρ w (.cptr cs) u := ⟨_, rfl, hx⟩
    cases hx with
    | cptr _ b' off f hone hF hc hv =>
      split at hs
      · rename_i hb
        split at hs
        · rename_i hle
          injection hs with hs
          subst hs
          subst hb
          obtain ⟨y, hy, hr⟩ := run_loadVar_cells (ρ := ρ) (P := P) (w := w) (r := b') (off := off) (cs := cs.take n) h1 h2 (by simp; omega) (fun j u hu => by
            rw [List.getElem?_take] at hu
            split at hu
            · exact ⟨f j, hc j (List.getElem?_eq_some_iff.1 hu).1, hv j u hu⟩
            · cases hu) (fun e => by cases e)
          exact key _ _ y hu hy hr
        · cases hs
      · rename_i hb
        have hb' : b = false := by simpa using hb
        subst hb'
        have q1 := hc 0 (List.getElem?_eq_some_iff.1 hs).1
        exact key _ _ (f 0) hu (by have q1' : w.cell? ⟨b', off, none⟩ = some (f 0) := by simpa using q1
                                   simp [loadVar, hagg, q1']) (hv 0 v hs)
  · cases hs

theorem sound_load (R : Rel G ρ h w) {t : TypeId} {b : Bool} {n : Nat} {x : Operand} {p v : V} {o : Oper} (ho : o.op = .load t x) (h1 : aggT P t = some b) (h2 : szT P t = some n)
    (hx : RV ρ w p (act.eval x)) (hs : loadV h b n p = some v) : Snd P G ρ w act o v h := by
  obtain ⟨r, off, y, hu, hy, hr⟩ := load_run R h1 h2 hx hs
  refine Snd.pure R (x := y) ?_ hr
  simp [execOp, ho, hu, Instr.loadAt, Instr.sureAddr, hy]

theorem splice_length (cs : List V) (i : Nat) (vs : List V) : (splice cs i vs).length = cs.length := by
  induction vs generalizing cs i with
  | nil => rfl
  | cons v vs ih => simp [splice, ih]

theorem splice_at (cs : List V) (i : Nat) (vs : List V) (hl : i + vs.length ≤ cs.length) (j : Nat) : (splice cs i vs)[j]? = if i ≤ j ∧ j < i + vs.length then vs[j - i]? else cs[j]? := by
  induction vs generalizing cs i with
  | nil => simp [splice]; intro h1 h2; omega
  | cons v vs ih =>
    simp only [List.length_cons] at hl
    simp only [splice, List.length_cons]
    rw [ih _ _ (by simp; omega)]
    by_cases h1 : i + 1 ≤ j ∧ j < i + 1 + vs.length
    · rw [if_pos h1, if_pos (by omega)]
      rw [show j - i = (j - (i + 1)) + 1 from by omega]
      simp
    · rw [if_neg h1, List.getElem?_set]
      by_cases h2 : i = j
      · subst h2
        rw [if_pos rfl, if_pos (by omega), if_pos (by omega)]
        simp
      · rw [if_neg h2, if_neg (by omega)]

/-- What the cells of a block hold behind a store. -/
theorem setCells_heap (b : Nat) : ∀ (vs : List Value) (o : Nat) (w : World) (cells : Array Value) (ty : TypeId) (fr : Nat × Nat), w.heap[b]? = some (.cells cells ty fr) → o + vs.length ≤ cells.size →
    ∃ cells' : Array Value, (w.setCells b o vs).heap[b]? = some (.cells cells' ty fr) ∧ cells'.size = cells.size ∧ (∀ j, cells'[j]? = if o ≤ j ∧ j < o + vs.length then vs[j - o]? else cells[j]?)
  | [], o, w, cells, ty, fr, hc, _ => ⟨cells, hc, rfl, fun j => by simp; intro h1 h2; omega⟩
  | v :: vs, o, w, cells, ty, fr, hc, hl => by
    simp only [List.length_cons] at hl
    have h1 : (w.setCell ⟨b, o, none⟩ v).heap[b]? = some (.cells (cells.setIfInBounds o v) ty fr) := by
      simp [World.setCell, Array.getElem?_modify, hc]
    obtain ⟨c', q1, q2, q3⟩ := setCells_heap b vs (o + 1) (w.setCell ⟨b, o, none⟩ v) _ ty fr h1 (by simp; omega)
    refine ⟨c', q1, by simpa using q2, fun j => ?_⟩
    rw [q3 j]
    simp only [List.length_cons]
    by_cases h2 : o + 1 ≤ j ∧ j < o + 1 + vs.length
    · rw [if_pos h2, if_pos (by omega), show j - o = (j - (o + 1)) + 1 from by omega]
      simp
    · rw [if_neg h2, Array.getElem?_setIfInBounds]
      by_cases h3 : o = j
      · subst h3
        rw [if_pos rfl, if_pos (by omega), if_pos (by omega)]
        simp
      · rw [if_neg h3, if_neg (by omega)]

theorem setCells_other (b : Nat) : ∀ (vs : List Value) (o : Nat) (w : World) (k : Nat), k ≠ b → (w.setCells b o vs).heap[k]? = w.heap[k]?
  | [], _, _, _, _ => rfl
  | v :: vs, o, w, k, hk => by
    rw [World.setCells, setCells_other b vs (o + 1) _ k hk]
    simp [World.setCell, Array.getElem?_modify, Ne.symm hk]

theorem setCells_rest (b : Nat) : ∀ (vs : List Value) (o : Nat) (w : World), (w.setCells b o vs).heap.size = w.heap.size ∧ (w.setCells b o vs).os = w.os ∧ (w.setCells b o vs).tape = w.tape ∧ (w.setCells b o vs).output = w.output
  | [], _, _ => ⟨rfl, rfl, rfl, rfl⟩
  | v :: vs, o, w => by
    obtain ⟨q1, q2, q3, q4⟩ := setCells_rest b vs (o + 1) (w.setCell ⟨b, o, none⟩ v)
    exact ⟨by rw [World.setCells, q1]; simp [World.setCell], by rw [World.setCells, q2]; rfl, by rw [World.setCells, q3]; rfl, by rw [World.setCells, q4]; rfl⟩

end Go.Am

/- The abstract machine, 7: stores, new variables, addresses, slices. -/
namespace Go.Am
variable {P : Program} {G : Nat → V} {ρ : Ren} {h : Heap} {w : World} {N : Nat} {a : Tm} {act : Act}

theorem setCells_len (x : V) (sub : Nat) (vs : List V) (hs : x.sane = true) (hv : ∀ v ∈ vs, v.one = true) (hl : sub + vs.length ≤ x.cells.length) (hn : ∃ cs, x = .agg cs) :
    (setCells x sub vs).sane = true ∧ (setCells x sub vs).cells = splice x.cells sub vs := by
  obtain ⟨cs, rfl⟩ := hn
  refine ⟨?_, rfl⟩
  simp only [setCells, V.sane, List.all_eq_true, V.cells] at *
  intro u hu
  obtain ⟨j, hj⟩ := List.mem_iff_getElem?.1 hu
  rw [splice_at _ _ _ hl] at hj
  split at hj
  · exact hv u (List.mem_of_getElem? hj)
  · exact hs u (List.mem_of_getElem? hj)

theorem flat_set (xs : List V) (s : Nat) (hs : ∀ x ∈ xs, x.cells.length = s) (i : Nat) (hi : i < xs.length) (y : V) (hy : y.cells.length = s) (j : Nat) :
    ((xs.set i y).flatMap V.cells)[j]? = if i * s ≤ j ∧ j < i * s + s then y.cells[j - i * s]? else (xs.flatMap V.cells)[j]? := by
  induction xs generalizing i j with
  | nil => simp at hi
  | cons x xs ih =>
    have hx := hs x (by simp)
    cases i with
    | zero =>
      simp only [List.set_cons_zero, List.flatMap_cons, Nat.zero_mul, Nat.zero_add, Nat.zero_le, true_and, Nat.sub_zero]
      by_cases hj : j < s
      · rw [if_pos hj, List.getElem?_append_left (by omega)]
      · rw [if_neg hj, List.getElem?_append_right (by omega), List.getElem?_append_right (by omega), hx, hy]
    | succ i =>
      simp only [List.set_cons_succ, List.flatMap_cons]
      have e : (i + 1) * s = i * s + s := by rw [Nat.add_mul]; omega
      by_cases hj : j < s
      · rw [List.getElem?_append_left (by omega), if_neg (by omega), List.getElem?_append_left (by omega)]
      · rw [List.getElem?_append_right (by omega), hx, ih (fun z hz => hs z (by simp [hz])) i (by simpa using hi) (j - s)]
        by_cases h2 : i * s ≤ j - s ∧ j - s < i * s + s
        · rw [if_pos h2, if_pos (by omega)]
          congr 1
          omega
        · rw [if_neg h2, if_neg (by omega), List.getElem?_append_right (by omega), hx]

theorem RV.cellsU {v : V} {x : Value} (r : RV ρ w v x) (hs : v.sane = true) : x.cells.toList.length = v.cells.length ∧ ∀ (j : Nat) (u : V), v.cells[j]? = some u → ∃ y : Value, x.cells.toList[j]? = some y ∧ RV ρ w u y := by
  obtain ⟨cl, cv⟩ := r.cells hs
  refine ⟨by simpa using cl, fun j u hu => ?_⟩
  have hj : j < x.cells.size := by rw [cl]; exact (List.getElem?_eq_some_iff.1 hu).1
  have := cv j u hu
  exact ⟨x.cells[j], by simp [hj], by simpa [Array.getD, hj] using this⟩

/-- An element's cells are written. -/
theorem Rel.store (R : Rel G ρ h w) {o ty sz : Nat} {xs : List V} (e : h.obj o = some (.arr ty sz xs)) {r s nb : Nat} (hρ : ρ.obj o = some (r, s, nb)) {i : Nat} {x y : V} (hx : xs[i]? = some x) {sub : Nat} {vs : List V} {us : List Value}
    (hlu : us.length = vs.length) (hvu : ∀ (j : Nat) (v : V), vs[j]? = some v → ∃ u : Value, us[j]? = some u ∧ RV ρ w v u) (hl : sub + vs.length ≤ x.cells.length)
    (hy : y.sane = true) (hyc : y.cells = splice x.cells sub vs) :
    Step ρ w ρ (w.setCells r (i * s + sub) us) ∧ Rel G ρ (h.set o (.arr ty sz (xs.set i y))) (w.setCells r (i * s + sub) us) ∧ s = sz ∧
      (∀ j, j < us.length → (w.cell? ⟨r, i * s + sub + j, none⟩).isSome = true) ∧ ∀ j, w.frozen? ⟨r, j, none⟩ = false := by
  obtain ⟨r', nb', h1, hnF, hs, cells, hc, hnb, hv⟩ := R.arr o ty sz xs e
  rw [hρ] at h1
  injection h1 with h1
  injection h1 with h1 h2
  injection h2 with h2 h3
  subst h1 h2 h3
  have hi : i < xs.length := (List.getElem?_eq_some_iff.1 hx).1
  have hxl : x.cells.length = s := (hs x (List.mem_of_getElem? hx)).2
  have hfl := flat_length xs s (fun z hz => (hs z hz).2)
  have hmul : i * s + s ≤ xs.length * s := by
    have := Nat.mul_le_mul_right s (show i + 1 ≤ xs.length from hi)
    rw [Nat.add_mul] at this
    omega
  have hcs : xs.length * s ≤ cells.size := by
    rcases Nat.eq_zero_or_pos (xs.length * s) with h0 | h0
    · omega
    · have : xs.length * s - 1 < (xs.flatMap V.cells).length := by omega
      obtain ⟨_, q, _⟩ := hv _ _ (List.getElem?_eq_getElem this)
      have := (Array.getElem?_eq_some_iff.1 q).1
      omega
  obtain ⟨c', q1, q2, q3⟩ := setCells_heap r us (i * s + sub) w cells ty (0, 0) hc (by omega)
  obtain ⟨p1, p2, p3, p4⟩ := setCells_rest r us (i * s + sub) w
  have hyl : y.cells.length = s := by rw [hyc, splice_length]; exact hxl
  obtain ⟨st, R'⟩ := R.setArr o ty s xs (xs.set i y) r nb c' _ e hρ (by omega) q1 (fun k hk => setCells_other r us _ w k hk) p1 (fun z hz => by
    rcases List.mem_or_eq_of_mem_set hz with hz | rfl
    · exact hs z hz
    · exact ⟨hy, hyl⟩) (fun j u hu => by
    rw [flat_set xs s (fun z hz => (hs z hz).2) i hi y hyl] at hu
    rw [q3 j]
    split at hu
    · rename_i hj
      rw [hyc, splice_at _ _ _ hl] at hu
      split at hu
      · rename_i hj2
        obtain ⟨v, k1, k2⟩ := hvu _ _ hu
        exact ⟨v, by rw [if_pos (by omega), show j - (i * s + sub) = j - i * s - sub from by omega]; exact k1, k2⟩
      · rename_i hj2
        obtain ⟨v, k1, k2⟩ := hv (i * s + (j - i * s)) u (by rw [flat_at xs s (fun z hz => (hs z hz).2) i x hx _ (by omega)]; exact hu)
        exact ⟨v, by rw [if_neg (by omega)]; rw [show i * s + (j - i * s) = j from by omega] at k1; exact k1, k2⟩
    · rename_i hj
      obtain ⟨v, k1, k2⟩ := hv j u hu
      exact ⟨v, by rw [if_neg (by omega)]; exact k1, k2⟩) p2 p3 p4
  refine ⟨st, R', rfl, fun j hj => ?_, fun j => by simp [World.frozen?, hc]⟩
  rw [cell_at hc]
  rw [Array.getElem?_eq_getElem (by omega)]
  rfl

theorem sound_store (R : Rel G ρ h w) {t : TypeId} {n : Nat} {x y : Operand} {p v : V} {h' : Heap} {o : Oper} (ho : o.op = .store t x y) (h2 : szT P t = some n)
    (hx : RV ρ w p (act.eval x)) (hy : RV ρ w v (act.eval y)) (hs : storeV h n p v = some h') : Snd P G ρ w act o .undef h' := by
  obtain ⟨i0, hi0, hn⟩ := szT_some h2
  unfold storeV at hs
  split at hs
  · rename_i o' i' sub
    obtain ⟨r, s, nb, hρ, hu⟩ := hx.ptr_inv
    split at hs
    · rename_i ty sz xs hob
      split at hs
      · rename_i e he
        split at hs
        · rename_i hcond
          obtain ⟨hlen, hle, hsane⟩ := hcond
          obtain ⟨cl, cv⟩ := hy.cells hsane
          have hfin : ∀ y' : V, y'.sane = true → y'.cells = splice e.cells sub v.cells → h' = h.set o' (.arr ty sz (xs.set i' y')) → Snd P G ρ w act o .undef h' := by
            intro y' hy1 hy2 hh
            obtain ⟨st, R', _, hsome, hfr⟩ := R.store (i := i') (sub := sub) (vs := v.cells) (us := (act.eval y).cells.toList) hob hρ he (hy.cellsU hsane).1 (hy.cellsU hsane).2 (by omega) hy1 hy2
            have hone : ∀ u ∈ (act.eval y).cells.toList, u.oneCell' = true := by
              intro u hu
              obtain ⟨j, hj⟩ := List.mem_iff_getElem?.1 hu
              have hj1 : j < (act.eval y).cells.size := by simpa using (List.getElem?_eq_some_iff.1 hj).1
              have hj2 : j < v.cells.length := by omega
              have q := cv j _ (List.getElem?_eq_getElem hj2)
              have : (act.eval y).cells.getD j Go.undef = u := by
                have : (act.eval y).cells[j]? = some u := by simpa using hj
                simp [Array.getD_eq_getD_getElem?, this]
              rw [this] at q
              exact q.oneCell (V.cells_all hsane _ (List.getElem_mem hj2))
            have hrun := run_storeCells_cells (P := P) r (i' * s + sub) (act.eval y).cells.toList 0 w (fun j hj => by simpa using hsome j hj) (fun j _ => by simpa using hfr _) hone
            refine ⟨.skip, Go.undef, _, ρ, ?_, rfl, st, by rw [hh]; exact R', .undef _⟩
            have hsz : (act.eval y).cells.size = i0.size := by omega
            simp only [Nat.add_zero] at hrun
            simp [execOp, ho, hu, Instr.storeAt, Instr.sureAddr, storeVar, run_sizeOf hi0, hsz, hrun]
          split at hs
          · rename_i cs
            injection hs with hs
            have hsane' := ((R.arr _ _ _ _ hob).choose_spec.choose_spec.2.2.1 _ (List.mem_of_getElem? he)).1
            obtain ⟨k1, k2⟩ := setCells_len (.agg cs) sub v.cells hsane' (V.cells_all hsane) (by omega) ⟨_, rfl⟩
            exact hfin _ k1 k2 hs.symm
          · cases hs
          · rename_i hne hnv
            injection hs with hs
            have hsane' := ((R.arr _ _ _ _ hob).choose_spec.choose_spec.2.2.1 _ (List.mem_of_getElem? he)).1
            have e1 : e.one = true := by
              rcases V.one_or hsane' with ⟨cs, rfl⟩ | q
              · exact absurd rfl (hne cs)
              · exact q
            have v1 : v.one = true := by
              rcases V.one_or hsane with ⟨cs, rfl⟩ | q
              · exact absurd rfl (hnv cs)
              · exact q
            refine hfin v hsane ?_ hs.symm
            rw [V.cells_one e1, V.cells_one v1] at *
            simp at hle hlen
            have : sub = 0 := by omega
            subst this
            rfl
        · cases hs
      · cases hs
    · cases hs
  · cases hs

/-- A new variable. -/
theorem sound_new (R : Rel G ρ h w) {ty sz : Nat} {b : V} {x : Value} (hx : RV ρ w b x) (hsane : b.sane = true) (hl : b.cells.length = sz) :
    ∃ ρ', Step ρ w ρ' (w.alloc (.cells x.cells ty)) ∧ Rel G ρ' (h.alloc (.arr ty sz [b])) (w.alloc (.cells x.cells ty)) ∧ RV ρ' (w.alloc (.cells x.cells ty)) (.ptr h.next 0 0) (.pointer (some ⟨w.heap.size, 0, none⟩)) := by
  obtain ⟨cl, cv⟩ := hx.cells hsane
  obtain ⟨ρ', st, R', e⟩ := R.alloc ty sz [b] x.cells (w.alloc (.cells x.cells ty)) rfl (by simp [hsane, hl]) (fun j u hu => by
    simp at hu
    have hj : j < x.cells.size := by rw [cl]; exact (List.getElem?_eq_some_iff.1 hu).1
    exact ⟨x.cells[j], by simp [hj], by simpa [Array.getD, hj] using cv j u hu⟩) rfl rfl rfl
  refine ⟨ρ', st, R', ?_⟩
  have := RV.ptr (ρ := ρ') (w := w.alloc (.cells x.cells ty)) h.next 0 0 w.heap.size sz _ e
  simpa using this

theorem sound_box (R : Rel G ρ h w) {t : TypeId} {sz : Nat} {x : Operand} {b : V} {o : Oper} (ho : o.op = .box t x) (hx : RV ρ w b (act.eval x)) (hl : b.cells.length = sz) (hsane : b.sane = true) :
    Snd P G ρ w act o (.ptr h.next 0 0) (h.alloc (.arr t sz [b])) := by
  obtain ⟨ρ', st, R', r⟩ := sound_new (ty := t) R hx hsane hl
  exact ⟨_, _, _, ρ', by simp [execOp, ho, Instr.box, newVar, newRow]; rfl, rfl, st, R', r⟩

theorem sound_alloc (R : Rel G ρ h w) {t : TypeId} {sz : Nat} {z : V} {o : Oper} (ho : o.op = .alloc t) (hz : zeroT P t = some z) (hl : z.cells.length = sz) :
    Snd P G ρ w act o (.ptr h.next 0 0) (h.alloc (.arr t sz [z])) := by
  obtain ⟨i, v, h1, h2, h3⟩ := zeroT_some hz
  obtain ⟨hr, hsane⟩ := cV_sound (ρ := ρ) (w := w) h3
  obtain ⟨ρ', st, R', r⟩ := sound_new (ty := t) R hr hsane hl
  exact ⟨_, _, _, ρ', by simp [execOp, ho, Instr.alloc, run_zeroValue h1 h2, newVar, newRow]; rfl, rfl, st, R', r⟩

theorem sound_faddr (R : Rel G ρ h w) {s : TypeId} {fs : Array Field} {x : Operand} {f : Nat} {fd : Field} {n : Nat} {b v : V} {o : Oper} (ho : o.op = .fieldAddr s x f) (h1 : P.underlying s = some (.struct fs)) (h2 : fs[f]? = some fd) (h3 : szT P fd.type = some (n + 1))
    (hx : RV ρ w b (act.eval x)) (hs : stepI G a h (.faddr (.c b) fd.offset) = some (v, h)) : Snd P G ρ w act o v h := by
  obtain ⟨i, hi, hn⟩ := szT_some h3
  have key : ∀ (r off : Nat), act.eval x = .pointer (some ⟨r, off, none⟩) → RV ρ w v (.pointer (some ⟨r, off + fd.offset, none⟩)) → Snd P G ρ w act o v h := by
    intro r off hu hr
    refine Snd.pure R ?_ hr
    simp [execOp, ho, hu, Instr.fieldAt, run_underlying h1, h2, Instr.sureAddr, fieldPlace, run_sizeOf hi, hn, Addr.add_mid]
  simp only [stepI, Opd.ev] at hs
  split at hs <;> first | (cases hs; done) | skip
  · injection hs with hs
    injection hs with hs _
    subst hs
    obtain ⟨r, q, nb, hρ, hu⟩ := hx.ptr_inv
    refine key _ _ hu ?_
    rw [Nat.add_assoc]
    exact .ptr _ _ _ _ _ _ hρ
  · rename_i cs
    injection hs with hs
    injection hs with hs _
    subst hs
    generalize hu : act.eval x = u at hx
    cases hx with
    | cptr _ b' off g hone hF hc hv =>
      refine key _ _ hu (.cptr _ _ _ (fun j => g (fd.offset + j)) (fun y hy => hone y (List.mem_of_mem_drop hy)) hF (fun j hj => ?_) (fun j u hu => ?_))
      · rw [Nat.add_assoc]
        exact hc _ (by simp at hj; omega)
      · rw [List.getElem?_drop] at hu
        exact hv _ _ hu

theorem run_part {t : TypeId} {b : Bool} {n : Nat} (h1 : aggT P t = some b) (h2 : szT P t = some n) {cs : Array Value} {off : Nat} (w : World) :
    (b = true → (part t cs off).run P w = .ok (.agg (cs.extract off (off + n))) w) ∧ (b = false → ∀ v, cs[off]? = some v → (part t cs off).run P w = .ok v w) := by
  obtain ⟨i, hi, hn⟩ := szT_some h2
  have hagg := aggT_some h1 w
  refine ⟨fun e => ?_, fun e v hv => ?_⟩
  · subst e; simp [part, hagg, run_sizeOf hi, hn]
  · subst e; simp [part, hagg, hv]

theorem RV.agg_sub {cs : List V} {vs : Array Value} (hl : vs.size = cs.length) (hv : ∀ j u, cs[j]? = some u → RV ρ w u (vs.getD j Go.undef)) (off n : Nat) (hle : off + n ≤ cs.length) :
    RV ρ w (.agg ((cs.drop off).take n)) (.agg (vs.extract off (off + n))) := by
  refine .agg _ _ (by simp; omega) (fun j u hu => ?_)
  rw [List.getElem?_take] at hu
  split at hu
  · rename_i hj
    rw [List.getElem?_drop] at hu
    have := hv _ _ hu
    have e : (vs.extract off (off + n)).getD j Go.undef = vs.getD (off + j) Go.undef := by
      rw [Array.getD_eq_getD_getElem?, Array.getD_eq_getD_getElem?, Array.getElem?_extract, if_pos (by omega)]
    rw [e]
    exact this
  · cases hu

theorem sound_fld (R : Rel G ρ h w) {t : TypeId} {fs : Array Field} {x : Operand} {f : Nat} {fd : Field} {b : Bool} {n : Nat} {p v : V} {o : Oper} (ho : o.op = .field t x f) (h1 : P.underlying t = some (.struct fs)) (h2 : fs[f]? = some fd)
    (h3 : aggT P fd.type = some b) (h4 : szT P fd.type = some n) (hx : RV ρ w p (act.eval x)) (hs : stepI G a h (.fld b n fd.offset (.c p)) = some (v, h)) : Snd P G ρ w act o v h := by
  simp only [stepI, Opd.ev] at hs
  split at hs <;> first | (cases hs; done) | skip
  rename_i cs
  generalize hu : act.eval x = u at hx
  cases hx with
  | agg _ vs hl hv =>
    have key : ∀ y, (part fd.type vs fd.offset).run P w = .ok y w → RV ρ w v y → Snd P G ρ w act o v h := by
      intro y hy hr
      refine Snd.pure R ?_ hr
      simp [execOp, ho, hu, Instr.field, run_underlying h1, h2, asAgg, hy]
    obtain ⟨k1, k2⟩ := run_part (cs := vs) (off := fd.offset) h3 h4 w
    split at hs
    · rename_i hb
      split at hs
      · rename_i hle
        injection hs with hs
        injection hs with hs _
        subst hs
        exact key _ (k1 hb) (RV.agg_sub hl hv _ _ hle)
      · cases hs
    · rename_i hb
      rw [Option.map_eq_some_iff] at hs
      obtain ⟨q, hq, hs⟩ := hs
      injection hs with hs _
      subst hs
      have hj : fd.offset < vs.size := by rw [hl]; exact (List.getElem?_eq_some_iff.1 hq).1
      refine key _ (k2 (by simpa using hb) vs[fd.offset] (by simp [hj])) ?_
      have := hv _ _ hq
      simpa [Array.getD, hj] using this

end Go.Am

/- The abstract machine, 8: slices: their elements, addresses of these, parts, append. -/
namespace Go.Am
variable {P : Program} {G : Nat → V} {ρ : Ren} {h : Heap} {w : World} {N : Nat} {a : Tm} {act : Act}

theorem flat_drop (xs : List V) (s : Nat) (hs : ∀ x ∈ xs, x.cells.length = s) (k : Nat) : (xs.drop k).flatMap V.cells = (xs.flatMap V.cells).drop (k * s) := by
  induction xs generalizing k with
  | nil => simp
  | cons x xs ih =>
    cases k with
    | zero => simp
    | succ k =>
      have hx := hs x (by simp)
      simp only [List.drop_succ_cons, List.flatMap_cons]
      rw [ih (fun y hy => hs y (by simp [hy])) k, Nat.add_mul, Nat.one_mul, Nat.add_comm, ← hx, ← List.drop_drop, List.drop_left]

theorem flat_take (xs : List V) (s : Nat) (hs : ∀ x ∈ xs, x.cells.length = s) (k : Nat) : (xs.take k).flatMap V.cells = (xs.flatMap V.cells).take (k * s) := by
  induction xs generalizing k with
  | nil => simp
  | cons x xs ih =>
    cases k with
    | zero => simp
    | succ k =>
      have hx := hs x (by simp)
      simp only [List.take_succ_cons, List.flatMap_cons]
      rw [ih (fun y hy => hs y (by simp [hy])) k, Nat.add_mul, Nat.one_mul, Nat.add_comm (k * s), List.take_append, hx]
      rw [List.take_of_length_le (by omega : x.cells.length ≤ s + k * s)]
      congr 2
      omega

/-- A slice that can be read. -/
structure Rd (ρ : Ren) (w : World) (ys : List V) (s : Nat) (b : Option Addr) (n c : Nat) : Prop where
  len : n = ys.length
  cap : n ≤ c
  sane : ∀ y ∈ ys, y.sane = true ∧ y.cells.length = s
  cell : 0 < n → ∃ r off, b = some ⟨r, off, none⟩ ∧ ∀ (j : Nat) (u : V), (ys.flatMap V.cells)[j]? = some u → ∃ v : Value, w.cell? ⟨r, off + j, none⟩ = some v ∧ RV ρ w u v

theorem readL_rd (R : Rel G ρ h w) {v : V} {ys : List V} {x : Value} (e : readL h v = some ys) (r : RV ρ w v x) : ∃ s b n c, x = .slice b n c ∧ Rd ρ w ys s b n c := by
  unfold readL at e
  split at e
  · injection e with e
    subst e
    cases r with
    | nil b => exact ⟨0, b, 0, 0, rfl, rfl, Nat.le_refl _, fun y hy => by simp at hy, fun h0 => absurd h0 (Nat.lt_irrefl _)⟩
  · rename_i xs
    injection e with e
    subst e
    cases r with
    | lst _ s b c f hc hs ha hv =>
      refine ⟨s, b, _, c, rfl, rfl, hc, hs, fun h0 => ?_⟩
      obtain ⟨k, off, e1, _, hcell⟩ := ha h0
      refine ⟨k, off, e1, fun j u hu => ⟨f j, hcell j ?_, hv j u hu⟩⟩
      have := (List.getElem?_eq_some_iff.1 hu).1
      rwa [flat_length xs s (fun y hy => (hs y hy).2)] at this
  · rename_i o off len room
    split at e
    · rename_i ty sz xs hob
      split at e
      · rename_i hle
        injection e with e
        subst e
        cases r with
        | slc _ _ _ _ k s nb c hρ hl hr hn =>
          obtain ⟨k', nb', h1, _, hs, cells, hc, hnb, hv⟩ := R.arr o ty sz xs hob
          rw [hρ] at h1
          injection h1 with h1
          injection h1 with h1 h2
          injection h2 with h2 h3
          subst h1 h2
          have hs2 : ∀ y ∈ xs, y.cells.length = s := fun y hy => (hs y hy).2
          refine ⟨s, _, len, c, rfl, by simp; omega, by omega, fun y hy => hs y (List.mem_of_mem_drop (List.mem_of_mem_take hy)), fun h0 => ⟨k, off * s, rfl, fun j u hu => ?_⟩⟩
          rw [flat_take _ s (fun y hy => hs2 y (List.mem_of_mem_drop hy)), flat_drop xs s hs2, List.getElem?_take] at hu
          split at hu
          · rw [List.getElem?_drop] at hu
            obtain ⟨v, q1, q2⟩ := hv _ _ hu
            exact ⟨v, by rw [cell_at hc]; exact q1, q2⟩
          · cases hu
      · cases e
    · cases e
  · cases e

theorem Rd.same {ys : List V} {s : Nat} {b : Option Addr} {n c : Nat} {w' : World} (r : Rd ρ w ys s b n c) (l : Le ρ w ρ w') (e : w'.heap = w.heap) : Rd ρ w' ys s b n c := by
  refine ⟨r.len, r.cap, r.sane, fun h0 => ?_⟩
  obtain ⟨k, off, e1, hc⟩ := r.cell h0
  refine ⟨k, off, e1, fun j u hu => ?_⟩
  obtain ⟨v, q1, q2⟩ := hc j u hu
  exact ⟨v, (World.cell?_of_block (by rw [e])).trans q1, q2.mono l⟩

/-- Its cells, as Go's built-ins take them. -/
theorem Rd.cells {ys : List V} {s : Nat} {b : Option Addr} {n c : Nat} (r : Rd ρ w ys s b n c) : ∃ vs : List Value, vs.length = n * s ∧ (∀ u ∈ vs, u.oneCell' = true) ∧
    (∀ w', w'.heap = w.heap → ∀ l c', (Builtin.firstCells s n (.slice b l c')).run P w' = .ok vs.toArray w') ∧ ∀ (j : Nat) (u : V), (ys.flatMap V.cells)[j]? = some u → ∃ v : Value, vs[j]? = some v ∧ RV ρ w u v := by
  have hfl := flat_length ys s (fun y hy => (r.sane y hy).2)
  by_cases h0 : 0 < n
  · obtain ⟨k, off, e1, hc⟩ := r.cell h0
    obtain ⟨vs, l, k1, k2⟩ := choose_cells hc
    refine ⟨vs, by rw [l, hfl, r.len], fun u hu => ?_, fun w' e l' c' => ?_, k2⟩
    · obtain ⟨j, hj⟩ := List.mem_iff_getElem?.1 hu
      have hj1 : j < (ys.flatMap V.cells).length := by rw [← l]; exact (List.getElem?_eq_some_iff.1 hj).1
      obtain ⟨v, q1, q2⟩ := k2 j _ (List.getElem?_eq_getElem hj1)
      rw [hj] at q1
      injection q1 with q1
      subst q1
      have hm := List.getElem_mem hj1
      rw [List.mem_flatMap] at hm
      obtain ⟨y, hy, hm⟩ := hm
      exact q2.oneCell (V.cells_all (r.sane y hy).1 _ hm)
    · subst e1
      have : vs.length = n * s := by rw [l, hfl, r.len]
      exact run_firstCells_some (P := P) w' s n _ l' c' vs this (fun j v hv => by rw [Addr.add_mid]; exact (World.cell?_of_block (by rw [e])).trans (k1 j v hv))
  · have hn : n = 0 := by omega
    have hy : ys = [] := List.eq_nil_of_length_eq_zero (by rw [← r.len, hn])
    subst hy
    refine ⟨[], by simp [hn], fun u hu => by simp at hu, fun w' e l' c' => ?_, fun j u hu => by simp at hu⟩
    subst hn
    cases b with
    | none => exact run_firstCells_none ..
    | some b => simp [Builtin.firstCells, loadCells, loadCellsFrom]

theorem idx_some {v : V} {n : Nat} {x : Value} (e : idx v = some n) (r : RV ρ w v x) : ∃ k, x = .int k (n : Int) := by
  unfold idx at e
  split at e
  · split at e
    · rename_i k m hm
      injection e with e
      rw [r.int_inv]
      exact ⟨k, by rw [← e]; congr 1; omega⟩
    · cases e
  · cases e

theorem sound_iaddr (R : Rel G ρ h w) {t el : TypeId} {x i : Operand} {sz : Nat} {b c v : V} {o : Oper} (ho : o.op = .indexAddr t x i) (h1 : P.underlying t = some (.slice el)) (h2 : szT P el = some sz)
    (hx : RV ρ w b (act.eval x)) (hi : RV ρ w c (act.eval i)) (hs : stepI G a h (.iaddr sz (.c b) (.c c)) = some (v, h)) : Snd P G ρ w act o v h := by
  obtain ⟨it, hit, hsz⟩ := szT_some h2
  simp only [stepI, Opd.ev] at hs
  split at hs
  · rename_i n xs hn
    obtain ⟨k, hk⟩ := idx_some hn hi
    split at hs
    · rename_i e he
      split at hs
      · rename_i hl
        injection hs with hs
        injection hs with hs _
        subst hs
        generalize hu : act.eval x = u at hx
        cases hx with
        | lst _ s bb cc f hc hss ha hv =>
          have hlt : n < xs.length := (List.getElem?_eq_some_iff.1 he).1
          obtain ⟨r, off, e1, hF, hcell⟩ := ha (by omega)
          subst e1
          have hmem := List.mem_of_getElem? he
          have es : s = sz := by rw [← (hss e hmem).2, hl]
          subst es
          have hmul : n * s + s ≤ xs.length * s := by
            have := Nat.mul_le_mul_right s (show n + 1 ≤ xs.length from hlt)
            rw [Nat.add_mul] at this
            omega
          refine Snd.pure R (x := .pointer (some ⟨r, off + n * s, none⟩)) ?_ (.cptr _ _ _ (fun j => f (n * s + j)) (V.cells_all (hss e hmem).1) hF (fun j hj => ?_) (fun j u hu => ?_))
          · simp [execOp, ho, hu, hk, Instr.indexAt, asIntOf, run_underlying h1, hlt, run_sizeOf hit, hsz, Addr.add_mid]
          · rw [Nat.add_assoc]
            exact hcell _ (by omega)
          · refine hv _ _ ?_
            rw [flat_at xs s (fun y hy => (hss y hy).2) n e he j (by have := (List.getElem?_eq_some_iff.1 hu).1; omega)]
            exact hu
      · cases hs
    · cases hs
  · rename_i n o' off len room hn
    obtain ⟨k, hk⟩ := idx_some hn hi
    split at hs
    · rename_i ty sz' xs hob
      split at hs
      · rename_i hcond
        obtain ⟨es, hlt, hlt2⟩ := hcond
        subst es
        injection hs with hs
        injection hs with hs _
        subst hs
        generalize hu : act.eval x = u at hx
        cases hx with
        | slc _ _ _ _ r s nb cc hρ hl hr hnn =>
          obtain ⟨r', nb', q1, _⟩ := R.arr o' ty sz' xs hob
          rw [hρ] at q1
          injection q1 with q1
          injection q1 with q1 q2
          injection q2 with q2 q3
          subst q1 q2
          refine Snd.pure R (x := .pointer (some ⟨r, off * s + n * s, none⟩)) ?_ ?_
          · simp [execOp, ho, hu, hk, Instr.indexAt, asIntOf, run_underlying h1, hlt, run_sizeOf hit, hsz, Addr.add_mid]
          · have := RV.ptr (ρ := ρ) (w := w) o' (off + n) 0 r s nb hρ
            rwa [Nat.add_zero, Nat.add_mul] at this
      · cases hs
    · cases hs
  · cases hs

theorem sound_iaddrA (R : Rel G ρ h w) {t el : TypeId} {x i : Operand} {len sz : Nat} {b c v : V} {o : Oper} (ho : o.op = .indexAddr t x i) (h1 : P.underlying t = some (.array len el)) (h2 : szT P el = some sz)
    (hx : RV ρ w b (act.eval x)) (hi : RV ρ w c (act.eval i)) (hs : stepI G a h (.iaddrA len sz (.c b) (.c c)) = some (v, h)) : Snd P G ρ w act o v h := by
  obtain ⟨it, hit, hsz⟩ := szT_some h2
  have key : ∀ (k : IntKind) (n r off : Nat), act.eval i = .int k n → n < len → act.eval x = .pointer (some ⟨r, off, none⟩) → RV ρ w v (.pointer (some ⟨r, off + n * sz, none⟩)) → Snd P G ρ w act o v h := by
    intro k n r off e1 e2 e3 e4
    refine Snd.pure R ?_ e4
    simp [execOp, ho, e1, e3, Instr.indexAt, asIntOf, run_underlying h1, Instr.sureAddr, e2, run_sizeOf hit, hsz, Addr.add_mid]
  simp only [stepI, Opd.ev] at hs
  split at hs
  · rename_i n o' j s hn
    obtain ⟨k, hk⟩ := idx_some hn hi
    split at hs
    · rename_i hlt
      injection hs with hs
      injection hs with hs _
      subst hs
      obtain ⟨r, q, nb, hρ, hu⟩ := hx.ptr_inv
      refine key k n _ _ hk hlt hu ?_
      rw [Nat.add_assoc]
      exact .ptr _ _ _ _ _ _ hρ
    · cases hs
  · rename_i n cs hn
    obtain ⟨k, hk⟩ := idx_some hn hi
    split at hs
    · rename_i hlt
      injection hs with hs
      injection hs with hs _
      subst hs
      generalize hu : act.eval x = u at hx
      cases hx with
      | cptr _ r off f hone hF hc hv =>
        refine key k n _ _ hk hlt hu (.cptr _ _ _ (fun j => f (n * sz + j)) (fun y hy => hone y (List.mem_of_mem_drop hy)) hF (fun j hj => ?_) (fun j u hu => ?_))
        · rw [Nat.add_assoc]
          exact hc _ (by simp at hj; omega)
        · rw [List.getElem?_drop] at hu
          exact hv _ _ hu
    · cases hs
  · cases hs

theorem sound_idxA (R : Rel G ρ h w) {t el : TypeId} {x i : Operand} {bb : Bool} {len sz : Nat} {b c v : V} {o : Oper} (ho : o.op = .index t x i) (h1 : P.underlying t = some (.array len el)) (h2 : szT P el = some sz) (h3 : aggT P el = some bb)
    (hx : RV ρ w b (act.eval x)) (hi : RV ρ w c (act.eval i)) (hs : stepI G a h (.idxA bb len sz (.c b) (.c c)) = some (v, h)) : Snd P G ρ w act o v h := by
  obtain ⟨it, hit, hsz⟩ := szT_some h2
  simp only [stepI, Opd.ev] at hs
  split at hs
  · rename_i n cs hn
    obtain ⟨k, hk⟩ := idx_some hn hi
    generalize hu : act.eval x = u at hx
    cases hx with
    | agg _ vs hl hv =>
      obtain ⟨k1, k2⟩ := run_part (cs := vs) (off := n * sz) h3 h2 w
      split at hs
      · rename_i hlt
        have key : ∀ y, (part el vs (n * sz)).run P w = .ok y w → RV ρ w v y → Snd P G ρ w act o v h := by
          intro y hy hr
          refine Snd.pure R ?_ hr
          simp [execOp, ho, hu, hk, Instr.index, asIntOf, run_underlying h1, hlt, run_sizeOf hit, hsz, hy]
        split at hs
        · rename_i hb
          split at hs
          · rename_i hle
            injection hs with hs
            injection hs with hs _
            subst hs
            exact key _ (k1 hb) (RV.agg_sub hl hv _ _ hle)
          · cases hs
        · rename_i hb
          rw [Option.map_eq_some_iff] at hs
          obtain ⟨q, hq, hs⟩ := hs
          injection hs with hs _
          subst hs
          have hj : n * sz < vs.size := by rw [hl]; exact (List.getElem?_eq_some_iff.1 hq).1
          refine key _ (k2 (by simpa using hb) vs[n * sz] (by simp [hj])) ?_
          have := hv _ _ hq
          simpa [Array.getD, hj] using this
      · cases hs
  · cases hs

theorem sound_idxS (R : Rel G ρ h w) {t : TypeId} {x i : Operand} {b c v : V} {o : Oper} (ho : o.op = .index t x i) (h1 : P.underlying t = some .string)
    (hx : RV ρ w b (act.eval x)) (hi : RV ρ w c (act.eval i)) (hs : stepI G a h (.idxS (.c b) (.c c)) = some (v, h)) : Snd P G ρ w act o v h := by
  simp only [stepI, Opd.ev] at hs
  split at hs
  · rename_i s n hn
    obtain ⟨k, hk⟩ := idx_some hn hi
    split at hs
    · rename_i hlt
      injection hs with hs
      injection hs with hs _
      subst hs
      generalize hu : act.eval x = u at hx
      cases hx
      refine Snd.pure R (x := .int .u8 (s[n]'hlt).toNat) ?_ (.int _ _)
      simp [execOp, ho, hu, hk, Instr.index, asIntOf, run_underlying h1, hlt]
    · cases hs
  · cases hs

theorem run_sliceBound {v : V} {n y : Nat} {x : Value} {code : BoundsCode} (e : idx v = some n) (r : RV ρ w v x) (hle : n ≤ y) : (Instr.sliceBound x y code).run P w = .ok n w := by
  obtain ⟨k, rfl⟩ := idx_some e r
  simp [Instr.sliceBound, asIntOf, hle]

/-- What stands for a bound: none, or a number. -/
def Bd (ρ : Ren) (w : World) : Option V → Option Value → Prop
  | none, none => True
  | some v, some x => RV ρ w v x
  | _, _ => False

theorem run_bounds {lo hi mx : Option V} {xl xh xm : Option Value} (bl : Bd ρ w lo xl) (bh : Bd ρ w hi xh) (bm : Bd ρ w mx xm) (hmh : mx.isSome → hi.isSome) {len cap l hh m : Nat}
    (el : (lo.map idx).getD (some 0) = some l) (eh : (hi.map idx).getD (some len) = some hh) (em : (mx.map idx).getD (some cap) = some m) (h1 : l ≤ hh) (h2 : hh ≤ m) (h3 : m ≤ cap) :
    (Instr.sliceBounds true len cap xl xh xm).run P w = .ok (l, hh, m) w := by
  cases mx with
  | none =>
    cases xm with
    | some _ => exact bm.elim
    | none =>
      simp at em
      subst em
      cases hi with
      | none =>
        cases xh with
        | some _ => exact bh.elim
        | none =>
          simp at eh
          subst eh
          cases lo with
          | none =>
            cases xl with
            | some _ => exact bl.elim
            | none => simp at el; subst el; simp [Instr.sliceBounds]
          | some lo =>
            cases xl with
            | none => exact bl.elim
            | some xl =>
              simp at el
              have q := run_sliceBound (P := P) (code := .sliceB) el bl h1
              simp [Instr.sliceBounds, q]
      | some hi =>
        cases xh with
        | none => exact bh.elim
        | some xh =>
          simp at eh
          have q1 := run_sliceBound (P := P) (code := .sliceAcap) eh bh h2
          cases lo with
          | none =>
            cases xl with
            | some _ => exact bl.elim
            | none => simp at el; subst el; simp [Instr.sliceBounds, q1]
          | some lo =>
            cases xl with
            | none => exact bl.elim
            | some xl =>
              simp at el
              have q := run_sliceBound (P := P) (code := .sliceB) el bl h1
              simp [Instr.sliceBounds, q1, q]
  | some mx =>
    cases xm with
    | none => exact bm.elim
    | some xm =>
      simp at em
      have q0 := run_sliceBound (P := P) (code := .slice3Acap) em bm h3
      cases hi with
      | none => simp at hmh
      | some hi =>
        cases xh with
        | none => exact bh.elim
        | some xh =>
          simp at eh
          have q1 := run_sliceBound (P := P) (code := .slice3B) eh bh h2
          cases lo with
          | none =>
            cases xl with
            | some _ => exact bl.elim
            | none => simp at el; subst el; simp [Instr.sliceBounds, q0, q1]
          | some lo =>
            cases xl with
            | none => exact bl.elim
            | some xl =>
              simp at el
              have q := run_sliceBound (P := P) (code := .slice3C) el bl h1
              simp [Instr.sliceBounds, q0, q1, q]

end Go.Am

/- The abstract machine, 9: parts of slices, append, make. -/
namespace Go.Am
variable {P : Program} {G : Nat → V} {ρ : Ren} {h : Heap} {w : World} {N : Nat} {a : Tm} {act : Act}

theorem sound_slice (R : Rel G ρ h w) {t el : TypeId} {x : Operand} {lo hi mx : Option Operand} {b v : V} {vl vh vm : Option V} {o : Oper} (ho : o.op = .slice t x lo hi mx) (h1 : P.underlying t = some (.slice el)) {sz : Nat} (h2 : szT P el = some sz)
    (hmh : mx.isSome → hi.isSome) (hx : RV ρ w b (act.eval x)) (bl : Bd ρ w vl (lo.map act.eval)) (bh : Bd ρ w vh (hi.map act.eval)) (bm : Bd ρ w vm (mx.map act.eval))
    (hs : sliceV h sz b vl vh vm = some v) : Snd P G ρ w act o v h := by
  obtain ⟨it, hit, hsz'⟩ := szT_some h2
  have hmh' : vm.isSome → vh.isSome := by
    intro e
    have e1 : mx.isSome := by cases vm <;> cases mx <;> simp_all [Bd]
    have := hmh e1
    cases vh <;> cases hi <;> simp_all [Bd]
  have hvm : vm.isSome = (mx.map act.eval).isSome := by cases vm <;> cases mx <;> simp_all [Bd]
  have key : ∀ (base : Option Addr) (len cap l hh m : Nat), act.eval x = .slice base len cap → (Instr.sliceBounds true len cap (lo.map act.eval) (hi.map act.eval) (mx.map act.eval)).run P w = .ok (l, hh, m) w →
      RV ρ w v (.slice (if m = l then base else base.map (·.add (l * sz))) (hh - l) (m - l)) → Snd P G ρ w act o v h := by
    intro base len cap l hh m e1 e2 e3
    refine Snd.pure R ?_ e3
    simp [execOp, ho, e1, Instr.sliceAt, Instr.slice, run_underlying h1, e2, run_sizeOf hit, hsz']
  unfold sliceV at hs
  split at hs
  · split at hs
    · rename_i q1 q2 q3
      injection hs with hs
      subst hs
      generalize hu : act.eval x = u at hx
      cases hx with
      | nil base =>
        exact key base 0 0 0 0 0 hu (run_bounds bl bh bm hmh' (by simpa using q1) (by simpa using q2) (by simpa using q3) (Nat.le_refl _) (Nat.le_refl _) (Nat.le_refl _)) (by simpa using RV.nil base)
    · cases hs
  · rename_i xs
    split at hs
    · rename_i l hh m q1 q2 q3
      split at hs
      · rename_i hcond
        obtain ⟨k1, k2, k3, kz⟩ := hcond
        injection hs with hs
        generalize hu : act.eval x = u at hx
        cases hx with
        | lst _ s base c f hc hss ha hv =>
          have hsub : ∀ m', hh ≤ m' → m' ≤ c → RV ρ w (.lst ((xs.take hh).drop l)) (.slice (if m' = l then base else base.map (·.add (l * sz))) (hh - l) (m' - l)) := by
            intro m' g1 g2
            have elen : ((xs.take hh).drop l).length = hh - l := by simp; omega
            rw [← elen]
            have hs2 : ∀ y ∈ xs, y.cells.length = s := fun y hy => (hss y hy).2
            have hs3 : ∀ y ∈ xs.take hh, y.cells.length = s := fun y hy => hs2 y (List.mem_of_mem_take hy)
            refine .lst _ s _ _ (fun j => f (l * s + j)) (by rw [elen]; omega) (fun y hy => hss y (List.mem_of_mem_take (List.mem_of_mem_drop hy))) (fun h0 => ?_) (fun j u hu2 => ?_)
            · rw [elen] at h0
              obtain ⟨r, off, e1, hF, hcell⟩ := ha (by omega)
              have hlt : 0 < xs.length := by omega
              have es : s = sz := by
                cases xs with
                | nil => simp at hlt
                | cons y ys =>
                  have q := hs2 y (by simp)
                  simp only [szOk, beq_iff_eq] at kz
                  omega
              subst es
              refine ⟨r, off + l * s, by rw [if_neg (by omega), e1]; simp [Addr.add_mid], hF, fun j hj => ?_⟩
              rw [elen] at hj
              rw [Nat.add_assoc]
              refine hcell _ ?_
              have : hh * s ≤ xs.length * s := Nat.mul_le_mul_right s (by omega)
              have : l * s + (hh - l) * s = hh * s := by rw [← Nat.add_mul]; congr 1; omega
              omega
            · rw [flat_drop _ s hs3, flat_take _ s hs2, List.getElem?_drop, List.getElem?_take] at hu2
              split at hu2
              · exact hv _ _ hu2
              · cases hu2
          split at hs
          · rename_i hz
            subst hs
            obtain ⟨hz1, hz2⟩ := hz
            have hb := run_bounds (P := P) (len := xs.length) (cap := c) bl bh bm hmh' q1 q2 (m := m) (by cases vm <;> simp_all) k1 k2 (by omega)
            refine key base xs.length c l hh m hu hb ?_
            rw [if_pos hz2, show hh - l = 0 from by omega, show m - l = 0 from by omega]
            exact .nil base
          · subst hs
            cases vm with
            | none =>
              simp at q3
              subst q3
              have hb := run_bounds (P := P) (len := xs.length) (cap := c) bl bh bm hmh' q1 q2 (m := c) (by simp) k1 (by omega) (Nat.le_refl _)
              exact key base xs.length c l hh c hu hb (hsub c (by omega) (Nat.le_refl _))
            | some vm =>
              have hb := run_bounds (P := P) (len := xs.length) (cap := c) bl bh bm hmh' q1 q2 (m := m) (by simpa using q3) k1 k2 (by omega)
              exact key base xs.length c l hh m hu hb (hsub m k2 (by omega))
      · cases hs
    · cases hs
  · rename_i o' off len room
    split at hs
    · rename_i l hh m q1 q2 q3
      split at hs
      · rename_i ty0 sz0 xs0 hob
        split at hs
        · rename_i hcond
          obtain ⟨k1, k2, k3, kz⟩ := hcond
          injection hs with hs
          generalize hu : act.eval x = u at hx
          cases hx with
          | slc _ _ _ _ r s nb c hρ hl hr hnn =>
          obtain ⟨r', nb', p1, _⟩ := R.arr o' ty0 sz0 xs0 hob
          rw [hρ] at p1
          injection p1 with p1
          injection p1 with _ p1
          injection p1 with p1 _
          have es : s = sz := by omega
          subst es
          have mk : ∀ m', l ≤ m' → (m - l) ≤ (m' - l) → m' ≤ c → m ≠ l → RV ρ w (.slc o' (off + l) (hh - l) (m - l)) (.slice (if m' = l then some ⟨r, off * s, none⟩ else (some (⟨r, off * s, none⟩ : Addr)).map (·.add (l * s))) (hh - l) (m' - l)) := by
            intro m' g1 g2 g4 g3
            rw [if_neg (by omega)]
            have := RV.slc (ρ := ρ) (w := w) o' (off + l) (hh - l) (m - l) r s nb (m' - l) hρ (by omega) g2 (Nat.le_trans (Nat.mul_le_mul_right s (by omega)) hnn)
            rw [Nat.add_mul] at this
            simpa [Addr.add_mid] using this
          cases hvmc : vm with
          | none =>
            subst hvmc
            simp at q3 hs
            subst q3
            have hb := run_bounds (P := P) (len := len) (cap := c) bl bh bm hmh' q1 q2 (m := c) (by simp) k1 (by omega) (Nat.le_refl _)
            refine key _ len c l hh c hu hb ?_
            split at hs
            · rename_i hz
              subst hs
              rw [show hh - l = ([] : List V).length from by simp; omega]
              exact .lst [] 0 _ _ (fun _ => Go.undef) (by simp) (fun y hy => by simp at hy) (fun h0 => by simp at h0) (fun j u hu => by simp at hu)
            · rename_i hz
              subst hs
              exact mk c (by omega) (by omega) (Nat.le_refl _) hz
          | some vm' =>
            subst hvmc
            simp at hs
            have hb := run_bounds (P := P) (len := len) (cap := c) bl bh bm hmh' q1 q2 (m := m) (by simpa using q3) k1 k2 (by omega)
            refine key _ len c l hh m hu hb ?_
            split at hs
            · rename_i hz
              subst hs
              rw [if_pos hz, show hh - l = 0 from by omega, show m - l = 0 from by omega]
              exact .nil _
            · rename_i hz
              subst hs
              exact mk m (by omega) (Nat.le_refl _) (by omega) hz
        · cases hs
      · cases hs
    · cases hs
  · cases hs

end Go.Am

/- The data level: values, heaps, operations and codes of a small functional reading of the program's code. -/
import Derived.WalkKit
import Derived.Deep.AppendSrc
import Derived.Deep.Draws
set_option linter.all false
namespace Go.Nk
open Go.RowKit

inductive DV where
  | undef
  | int (k : IntKind) (n : Int)
  | bool (b : Bool)
  | str (s : List UInt8)
  | nil
  | sl (es : List (List DV))
  | own (h L off len : Nat)
  | ptr (h L i j : Nat)
  | ref (cs : List DV)
  | nilp
  | agg (cs : List DV)
  | tup (vs : List DV)
  | clo (f : FuncId) (caps : List DV)
  | meth (f : FuncId) (fst : List DV)                   -- a method with its receiver
  | yld (l : Nat)                                      -- what a range over a function hands to the function
  | anyb

instance : Inhabited DV := ⟨.undef⟩

/-- Kinds of heap objects: content that is never changed any more elsewhere (imm), explicit cells (loc), frozen, dead. -/
inductive Kd where
  | imm | loc | frz | dead
  deriving DecidableEq

structure DObj where
  k : Kd
  z : Nat
  es : List (List DV)

instance : Inhabited DObj := ⟨⟨.dead, 0, []⟩⟩

def DV.one : DV → Bool
  | .agg _ | .tup _ | .undef => false
  | _ => true

/-- A value that holds no handle (by its head). -/
def DV.immB : DV → Bool
  | .int .. | .bool _ | .str _ | .nil | .sl .. | .ref _ | .nilp => true
  | _ => false

/-- Is nothing known of it? -/
def DV.isU : DV → Bool
  | .undef => true
  | _ => false

def cellAt (es : List (List DV)) (i j : Nat) : Option DV := (es[i]?).bind (·[j]?)

def get (n : Nat) : List (Nat × DV) → DV
  | [] => .undef
  | (m, d) :: r => if n = m then d else get n r

@[simp] theorem get_nil (n : Nat) : get n [] = .undef := rfl
theorem get_cons (n m : Nat) (d : DV) (r : List (Nat × DV)) : get n ((m, d) :: r) = if n = m then d else get n r := rfl

structure DS where
  fr : List (Nat × DV)
  hp : List DObj

inductive DA where
  | t (n : Nat)
  | c (d : DV)

def DA.ev (fr : List (Nat × DV)) : DA → DV
  | .t n => get n fr
  | .c d => d

/-- What an operation asks, and what it makes. -/
structure Res where
  pre : Prop
  val : DV
  hp : List DObj

def no : Res := ⟨False, .undef, []⟩

def bitsOf (op : BinOp) (k : IntKind) (x y : Int) : Int :=
  let a := BitVec.ofInt k.bits x
  let b := BitVec.ofInt k.bits y
  match op with
  | .and => k.wrap (a &&& b).toNat
  | .or => k.wrap (a ||| b).toNat
  | .xor => k.wrap (a ^^^ b).toNat
  | _ => k.wrap (a &&& ~~~b).toNat

def dInt (op : BinOp) (k : IntKind) (a b : Int) : Prop × DV :=
  match op with
  | .add => (True, .int k (k.wrap (a + b)))
  | .sub => (True, .int k (k.wrap (a - b)))
  | .mul => (True, .int k (k.wrap (a * b)))
  | .quo => (b ≠ 0, .int k (k.wrap (a.tdiv b)))
  | .rem => (b ≠ 0, .int k (a.tmod b))
  | .and | .or | .xor | .andNot => (True, .int k (bitsOf op k a b))
  | .eql => (True, .bool (a == b))
  | .neq => (True, .bool (a != b))
  | .lss => (True, .bool (a < b))
  | .leq => (True, .bool (a ≤ b))
  | .gtr => (True, .bool (a > b))
  | .geq => (True, .bool (a ≥ b))
  | _ => (False, .undef)

def strMax : Nat := 4611686018427387904

def dStr (op : BinOp) (a b : List UInt8) : Prop × DV :=
  match op with
  | .add => (a.length + b.length ≤ strMax, .str (a ++ b))
  | .eql => (True, .bool (a == b))
  | .neq => (True, .bool (!(a == b)))
  | .lss => (True, .bool (Op.bytesLess a b))
  | .leq => (True, .bool (Op.bytesLess a b || a == b))
  | .gtr => (True, .bool (!(Op.bytesLess a b || a == b)))
  | .geq => (True, .bool (!(Op.bytesLess a b)))
  | _ => (False, .undef)

/-- Cells of comparable scalars (0: numbers, 1: truths, 2: texts) held against each other. -/
def eqCells : List Nat → List DV → List DV → Option Bool
  | [], [], [] => some true
  | 0 :: ks, .int k a :: r, .int k' b :: s => if k = k' then (if a == b then eqCells ks r s else some false) else none
  | 1 :: ks, .bool a :: r, .bool b :: s => if a == b then eqCells ks r s else some false
  | 2 :: ks, .str a :: r, .str b :: s => if a == b then eqCells ks r s else some false
  | _, _, _ => none

def dBin (op : BinOp) : DV → DV → Prop × DV
  | .int k a, .int k' b =>
    match op with
    | .shl => (0 ≤ b, .int k (k.wrap (a * 2 ^ (min b.toNat k.bits))))
    | .shr => (0 ≤ b, .int k (a.fdiv (2 ^ (min b.toNat k.bits))))
    | _ => if k = k' then dInt op k a b else (False, .undef)
  | .str a, .str b => dStr op a b
  | _, _ => (False, .undef)

def dBeq (neg : Bool) : DV → DV → Prop × DV
  | .bool a, .bool b => (True, .bool (if neg then !(a == b) else a == b))
  | _, _ => (False, .undef)

def dPeq (neg : Bool) : DV → DV → Prop × DV
  | .nilp, .nilp => (True, .bool (!neg))
  | .ref _, .nilp | .nilp, .ref _ => (True, .bool neg)
  | _, _ => (False, .undef)

def dAeq (neg : Bool) (ks : List Nat) : DV → DV → Prop × DV
  | .agg a, .agg b => match eqCells ks a b with | some r => (a.length = ks.length ∧ b.length = ks.length, .bool (if neg then !r else r)) | none => (False, .undef)
  | _, _ => (False, .undef)

def dUn (op : UnOp) : DV → Prop × DV
  | .int k n =>
    match op with
    | .neg => (True, .int k (k.wrap (0 - n)))
    | .xor => (True, .int k (bitsOf .xor k (if k.signed then -1 else k.max) n))
    | _ => (False, .undef)
  | .bool b =>
    match op with
    | .not => (True, .bool (!b))
    | _ => (False, .undef)
  | _ => (False, .undef)

/-- The cells that a pointer points at (and on), and whether it may be looked through. -/
def cellsAt (hp : List DObj) : DV → Prop × List DV
  | .ref cs => (True, cs)
  | .ptr h L i j =>
    match hp[h]? with
    | some o => if o.k = .dead then (False, []) else (o.es.length = L ∧ i < L, (o.es.getD i []).drop j)
    | none => (False, [])
  | _ => (False, [])

def dLoad (sz : Option Nat) (x : Prop × List DV) : Prop × DV :=
  match sz with
  | none => (x.1 ∧ 0 < x.2.length, x.2.getD 0 .undef)
  | some n => (x.1 ∧ n ≤ x.2.length, .agg (x.2.take n))

def cellsOf : DV → List DV
  | .agg cs => cs
  | d => [d]

def setFrom : List DV → Nat → List DV → List DV
  | row, _, [] => row
  | row, j, c :: cs => setFrom (row.set j c) (j + 1) cs

/-- The elements that a slice value has. -/
structure Elems where
  pre : Prop
  es : List (List DV)

def elemsOf (hp : List DObj) : DV → Elems
  | .nil => ⟨True, []⟩
  | .sl es => ⟨True, es⟩
  | .own h L off len =>
    match hp[h]? with
    | some o => if o.k = .imm ∨ o.k = .frz then ⟨o.es.length = L ∧ off + len ≤ L, (o.es.drop off).take len⟩ else ⟨False, []⟩
    | none => ⟨False, []⟩
  | .str s => ⟨True, s.map fun b => [.int .u8 b.toNat]⟩
  | _ => ⟨False, []⟩

def freezeAt (hp : List DObj) (h : Nat) : List DObj :=
  match hp[h]? with
  | some o => hp.set h { o with k := .frz }
  | none => hp

/-- What a closure holds, seen without handles. -/
def capV (hp : List DObj) : DV → Prop × DV
  | .ptr h L i j => match hp[h]? with
    | some o => (o.k ≠ .dead ∧ o.es.length = L ∧ i < L ∧ ∀ r ∈ o.es, ∀ c ∈ r, c.immB = true, .ref ((o.es.getD i []).drop j))
    | none => (False, .undef)
  | d => (d.immB = true, d)
def capVL (hp : List DObj) : List DV → Prop × List DV
  | [] => (True, [])
  | d :: r => ((capV hp d).1 ∧ (capVL hp r).1, (capV hp d).2 :: (capVL hp r).2)
/-- One cell made free of handles: what it is then, and the heap in which its block is frozen. -/
def fz1 (hp : List DObj) (d : DV) : Res :=
  match d with
  | .own h _ _ _ => ⟨(elemsOf hp d).pre, .sl (elemsOf hp d).es, freezeAt hp h⟩
  | .nil => ⟨True, .sl [], hp⟩
  | .clo f cs => ⟨cs.all DV.immB = true, .clo f cs, hp⟩
  | _ => if d.immB then ⟨True, d, hp⟩ else ⟨False, .undef, hp⟩

structure ResL where
  pre : Prop
  vals : List DV
  hp : List DObj

def fzL (hp : List DObj) : List DV → ResL
  | [] => ⟨True, [], hp⟩
  | d :: r =>
    let x := fz1 hp d
    let y := fzL x.hp r
    ⟨x.pre ∧ y.pre, x.val :: y.vals, y.hp⟩

structure ResLL where
  pre : Prop
  vals : List (List DV)
  hp : List DObj

def fzLL (hp : List DObj) : List (List DV) → ResLL
  | [] => ⟨True, [], hp⟩
  | d :: r =>
    let x := fzL hp d
    let y := fzLL x.hp r
    ⟨x.pre ∧ y.pre, x.vals :: y.vals, y.hp⟩

/-- A value (an aggregate or a tuple too) made free of handles. -/
def fzV (hp : List DObj) : DV → Res
  | .agg cs => let x := fzL hp cs; ⟨x.pre, .agg x.vals, x.hp⟩
  | d => fz1 hp d

def fzVs (hp : List DObj) : List DV → ResL
  | [] => ⟨True, [], hp⟩
  | d :: r =>
    let x := fzV hp d
    let y := fzVs x.hp r
    ⟨x.pre ∧ y.pre, x.val :: y.vals, y.hp⟩

/-- A value seen without handles, for as long as a call lasts. -/
def view1 (hp : List DObj) (d : DV) : Prop × DV :=
  match d with
  | .own .. => ((elemsOf hp d).pre, .sl (elemsOf hp d).es)
  | .nil => (True, .sl [])
  | .clo f cs => ((capVL hp cs).1, .clo f (capVL hp cs).2)
  | _ => if d.immB then (True, d) else (False, .undef)

def noMem : DV → Bool
  | .int .. | .bool _ | .str _ | .nilp => true
  | _ => false

def noMemV : DV → Bool
  | .tup vs => vs.all noMem
  | .agg vs => vs.all noMem
  | d => noMem d

inductive DOp where
  | mv (x : DA)
  | mvf (x : DA)                                       -- a move; what is moved is frozen
  | mkown (z : Nat) (x : DA)                          -- a nil slice that is to grow
  | mark (x : DA)                                      -- a literal's bytes, converted to their own type
  | slA (n : Nat) (x hi : DA)                          -- an own array of cells, sliced: its object has a row a cell from there on
  | mvd (x : DA)                                       -- an own slice whose elements hold own slices, frozen as a whole
  | pick (c a b : DA)
  | bin (op : BinOp) (x y : DA)
  | beq (neg : Bool) (x y : DA)
  | peq (neg : Bool) (x y : DA)
  | aeq (neg : Bool) (ks : List Nat) (x y : DA)
  | un (op : UnOp) (x : DA)
  | conv (k : IntKind) (x : DA)
  | s2b (x : DA)
  | b2s (x : DA)
  | same (x : DA)                                     -- a conversion that changes nothing
  | snil (neg : Bool) (x : DA)                        -- a slice held against nil
  | len (x : DA)
  | lenS (x : DA)
  | minmax (mx : Bool) (x y : DA)
  | load (sz : Option Nat) (p : DA)
  | store (n : Nat) (p v : DA)
  | faddr (off : Nat) (p : DA)
  | field (off : Nat) (sz : Option Nat) (x : DA)
  | iaddr (z : Nat) (x i : DA)
  | iaddrA (n z : Nat) (p i : DA)
  | index (x i : DA)                                  -- of a string
  | slice (z : Nat) (x : DA) (lo hi mx : Option DA)
  | sliceS (x : DA) (lo hi : Option DA)
  | make (zero : List DV) (n c : DA)
  | bslice (imm : Bool) (zero : List DV) (parts : List (Option DA))
  | build (zero : List DV) (parts : List (Nat × Nat × DA))
  | alloc (zero : List DV)
  | box (x : DA)
  | append (z : Nat) (s x : DA)
  | bown (zero : List DV) (parts : List (Option DA))      -- an own slice whose elements hold handles
  | appl (z : Nat) (s x : DA)                             -- grown by such
  | extract (i : Nat) (x : DA)
  | nilck (x : DA)
  | mkfun (f : FuncId) (caps : List DA)
  | mkmeth (f : FuncId) (fst : List DA)
  | callP (f : FuncId) (args : List DA)
  | callH (f : FuncId) (args : List DA)
  | rz (z : Nat) (d : DOp)                              -- a reading of an object whose rows are not of z cells
  | cl (b z : Nat) (f : FuncId) (args : List DA)           -- a call that sees one object alone, and makes none that stays
  | clo (h b z : Nat) (f : FuncId) (args : List DA)        -- such a one that makes an own slice, which is laid at a place kept for it
  | callvP (f : DA) (args : List DA)
  | callvH (f : DA) (args : List DA)
  | al (d : DOp)                                      -- an operation that makes objects, and leaves the others as they are
  | ei (f : FuncId) (args : List DA)                   -- a call that works on the heap, where it can be read so, and else a pure one
  | to (b : Nat) (d : DOp)                            -- an operation that changes the object of a slot's handle alone
  | rd (d : DOp)                                      -- an operation that leaves the heap as it is
  | bad                                               -- what is not read: it must not be reached
  | bref (x : DA)                                     -- a box that is never stored to
  | capn (x : DA)                                     -- how much nil holds
  | home (z : Nat) (x : DA)                           -- an own slice, alone, with nothing behind it that is told of
  | appz (z : Nat) (zero : List DV) (s n : DA)        -- so many zeros behind a slice
  | xload (k : IntKind) (f : FuncId) (p : DA)           -- sync/atomic's own: a number is read
  | xstore (k : IntKind) (f : FuncId) (p v : DA)        -- is stored
  | xadd (k : IntKind) (f : FuncId) (p v : DA)          -- is added to
  | xcas (k : IntKind) (f : FuncId) (p o n : DA)        -- is stored, if another one was there
  | copy (z : Nat) (d x : DA)                          -- copy into a slice of one's own
  | aa (h : Nat) (zero : List DV)                      -- a new object at a place that is kept for it
  | rk (lo : Nat) (d : DOp)                           -- a reading, of cells ahead of a place
  | tk (b lo : Nat) (d : DOp)                         -- a call that changes the object of a slot's handle alone, and of that what stands from a place on
  | fz (d : DOp)                                      -- what it gives is frozen
  | im (d : DOp)                                      -- a reading of what never changes: through slices and pointers that hold no handle

structure DOper where
  dst : Option Nat
  op : DOp
  guard : Option (Nat × Bool) := none

/-- What the callees tell: pure ones; ones that work on the heap; iterators. -/
structure Orc where
  p : FuncId → List DV → Prop × DV
  h : FuncId → List DV → List DObj → Res
  i : FuncId → List DV → Prop × List (List DV)          -- what an iterator hands over

def lenMax : Nat := 4294967296
/-- How many elements of a zero may be made at once. -/
def lenCap : List DV → Nat
  | [.int .i64 0] => 17592186044416
  | _ => 4294967296

def dBound (x : Option DV) (dflt : Int) : Prop × Int :=
  match x with
  | none => (True, dflt)
  | some (.int _ n) => (True, n)
  | _ => (False, 0)

def dSliceS (x : DV) (lo hi : Option DV) : Prop × DV :=
  match x with
  | .str s =>
    let l := dBound lo 0
    let h := dBound hi s.length
    (l.1 ∧ h.1 ∧ 0 ≤ l.2 ∧ l.2 ≤ h.2 ∧ h.2 ≤ s.length, .str ((s.take h.2.toNat).drop l.2.toNat))
  | _ => (False, .undef)

def dSlice (hp : List DObj) (z : Nat) (x : DV) (lo hi mx : Option DV) : Prop × DV :=
  match x with
  | .sl es =>
    let l := dBound lo 0
    let h := dBound hi es.length
    let m := dBound mx h.2
    ((∀ e ∈ es, e.length = z) ∧ l.1 ∧ h.1 ∧ m.1 ∧ (mx.isSome = true → hi.isSome = true) ∧ 0 ≤ l.2 ∧ l.2 ≤ h.2 ∧ h.2 ≤ m.2 ∧ m.2 ≤ es.length, .sl ((es.take h.2.toNat).drop l.2.toNat))
  | .own o L off len =>
    let l := dBound lo 0
    let h := dBound hi len
    let m := dBound mx h.2
    (l.1 ∧ h.1 ∧ m.1 ∧ (mx.isSome = true → hi.isSome = true) ∧ 0 ≤ l.2 ∧ l.2 ≤ h.2 ∧ h.2 ≤ m.2 ∧ m.2 ≤ len ∧
      (match hp[o]? with | some ob => ob.k ≠ .dead ∧ ob.z = z ∧ ob.es.length = L | none => False), .own o L (off + l.2.toNat) (h.2.toNat - l.2.toNat))
  | .nil =>
    let l := dBound lo 0
    let h := dBound hi 0
    let m := dBound mx 0
    (l.1 ∧ h.1 ∧ m.1 ∧ (mx.isSome = true → hi.isSome = true) ∧ l.2 = 0 ∧ h.2 = 0 ∧ m.2 = 0, .nil)
  | _ => (False, .undef)

def viewL (hp : List DObj) : List DV → Prop × List DV
  | [] => (True, [])
  | d :: r => ((view1 hp d).1 ∧ (viewL hp r).1, (view1 hp d).2 :: (viewL hp r).2)

def viewV (hp : List DObj) : DV → Prop × DV
  | .agg cs => ((viewL hp cs).1, .agg (viewL hp cs).2)
  | d => view1 hp d

def viewVs (hp : List DObj) : List DV → Prop × List DV
  | [] => (True, [])
  | d :: r => ((viewV hp d).1 ∧ (viewVs hp r).1, (viewV hp d).2 :: (viewVs hp r).2)

/-- A call of a pure function: own arguments are looked at; if what comes back holds memory they are frozen for good. -/
def dCallP (C : Orc) (hp : List DObj) (f : FuncId) (args : List DV) : Res :=
  let v := viewVs hp args
  let r := C.p f v.2
  if noMemV r.2 then ⟨v.1 ∧ r.1, r.2, hp⟩ else
    let z := fzVs hp args
    ⟨z.pre ∧ (C.p f z.vals).1, (C.p f z.vals).2, z.hp⟩

def dAppend (hp : List DObj) (z : Nat) (s x : DV) : Res :=
  let src := elemsOf hp x
  match s with
  | .nil => ⟨src.pre ∧ src.es.length ≤ lenMax ∧ (∀ e ∈ src.es, e.length = z), .own hp.length src.es.length 0 src.es.length, hp ++ [⟨.imm, z, src.es⟩]⟩
  | .own h L off len =>
    match hp[h]? with
    | some o =>
      ⟨src.pre ∧ (∀ e ∈ src.es, e.length = z) ∧ o.k = .imm ∧ o.z = z ∧ o.es.length = L ∧ off = 0 ∧ len = L ∧ L + src.es.length ≤ lenMax,
        .own h (L + src.es.length) 0 (L + src.es.length), hp.set h ⟨.imm, z, o.es ++ src.es⟩⟩
    | none => no
  | _ => no

def dAppz (hp : List DObj) (z : Nat) (zero : List DV) (s n : DV) : Res :=
  match n with
  | .int .i64 m =>
    match s with
    | .nil => ⟨0 ≤ m ∧ m.toNat ≤ lenMax, .own hp.length m.toNat 0 m.toNat, hp ++ [⟨.imm, z, List.replicate m.toNat zero⟩]⟩
    | .own h L off len =>
      match hp[h]? with
      | some o =>
        ⟨0 ≤ m ∧ o.k = .imm ∧ o.z = z ∧ o.es.length = L ∧ off = 0 ∧ len = L ∧ L + m.toNat ≤ lenMax,
          .own h (L + m.toNat) 0 (L + m.toNat), hp.set h ⟨.imm, z, o.es ++ List.replicate m.toNat zero⟩⟩
      | none => no
    | _ => no
  | _ => no

def dStore (hp : List DObj) (n : Nat) (p v : DV) : Res :=
  match p with
  | .ptr h L i j =>
    match hp[h]? with
    | some o =>
      if o.k = .loc then
        ⟨(cellsOf v).length = n ∧ o.es.length = L ∧ i < L ∧ j + (cellsOf v).length ≤ (o.es.getD i []).length ∧ (∀ d ∈ cellsOf v, d.one = true), .tup [],
          hp.set h { o with es := o.es.set i (setFrom (o.es.getD i []) j (cellsOf v)) }⟩
      else if o.k = .imm then
        let y := fzL hp (cellsOf v)
        match y.hp[h]? with
        | some o' =>
          ⟨(cellsOf v).length = n ∧ y.pre ∧ o'.k = .imm ∧ o.es.length = L ∧ i < L ∧ j + (cellsOf v).length ≤ (o.es.getD i []).length, .tup [],
            y.hp.set h { o with es := o.es.set i (setFrom (o.es.getD i []) j y.vals) }⟩
        | none => no
      else no
    | none => no
  | _ => no

/-- A cell of one's own is set. -/
def dPut (hp : List DObj) (p d : DV) : Res :=
  match p with
  | .ptr h L i j =>
    match hp[h]? with
    | some o => ⟨o.k = .loc ∧ o.es.length = L ∧ i < L ∧ j < (o.es.getD i []).length, .tup [], hp.set h { o with es := o.es.set i ((o.es.getD i []).set j d) }⟩
    | none => no
  | _ => no

def buildCells (cells : List DV) (fr : List (Nat × DV)) : List (Nat × Nat × DA) → Prop × List DV
  | [] => (True, cells)
  | (off, n, x) :: r =>
    let b := buildCells (setFrom cells off (cellsOf (x.ev fr))) fr r
    ((x.ev fr).isU = false ∧ (cellsOf (x.ev fr)).length = n ∧ off + n ≤ cells.length ∧ b.1, b.2)

def bRow (fr : List (Nat × DV)) (zero : List DV) : Option DA → List DV
  | some x => cellsOf (x.ev fr)
  | none => zero

def bU (fr : List (Nat × DV)) (zero : List DV) : Option DA → Bool
  | some x => !(x.ev fr).isU && (cellsOf (x.ev fr)).length == zero.length
  | none => true

/-- Is the object there, as long as it was? -/
def alive (hp : List DObj) (h L : Nat) : Prop :=
  match hp[h]? with
  | some o => o.k ≠ .dead ∧ o.es.length = L
  | none => False

/-- The handle that a value bears. -/
def hdl : DV → Option Nat
  | .ptr h _ _ _ => some h
  | .own h _ _ _ => some h
  | .agg [.ptr h _ _ _] => some h
  | _ => none

/-- A value that holds the handle k alone, if any. -/
def onlyH1 (k : Nat) (d : DV) : Bool := d.immB || (match d with | .ptr h _ _ _ => h == k | _ => false)
def onlyH2 (k : Nat) (d : DV) : Bool := onlyH1 k d || (match d with | .agg cs => cs.all (onlyH1 k) | _ => false)
def onlyH (k : Nat) (d : DV) : Bool := onlyH2 k d || (match d with | .meth _ cs => cs.all (onlyH2 k) | _ => false)
/-- A result without handles. -/
def immR (d : DV) : Bool := d.immB || (match d with | .agg cs => cs.all DV.immB | _ => false)

def dval (C : Orc) (op : DOp) (s : DS) : Res :=
  match op with
  | .mv x => ⟨True, x.ev s.fr, s.hp⟩
  | .same x => match x.ev s.fr with
    | .str b => ⟨True, .str b, s.hp⟩
    | _ => no
  | .mvf x => fzV s.hp (x.ev s.fr)
  | .mvd x => match x.ev s.fr with
    | .own h L off len =>
      match s.hp[h]? with
      | some o =>
        if o.k = .imm ∧ o.es = [] then ⟨L = 0 ∧ len = 0, .sl [], s.hp⟩ else
        match (fzLL s.hp o.es).hp[h]? with
        | some o2 => ⟨o.k = .loc ∧ o.es.length = L ∧ off = 0 ∧ len = L ∧ 0 < L ∧ (fzLL s.hp o.es).pre ∧ (∀ e ∈ (fzLL s.hp o.es).vals, e.length = o.z) ∧ o2.k = .loc, .sl (fzLL s.hp o.es).vals, (fzLL s.hp o.es).hp.set h { o2 with k := .dead }⟩
        | none => no
      | none => no
    | _ => no
  | .mkown z x => match x.ev s.fr with
    | .nil => ⟨True, .own s.hp.length 0 0 0, s.hp ++ [⟨.imm, z, []⟩]⟩
    | _ => no
  | .pick c a b => match c.ev s.fr with
    | .bool true => ⟨True, a.ev s.fr, s.hp⟩
    | .bool false => ⟨True, b.ev s.fr, s.hp⟩
    | _ => no
  | .bin op x y => let r := dBin op (x.ev s.fr) (y.ev s.fr); ⟨r.1, r.2, s.hp⟩
  | .beq n x y => let r := dBeq n (x.ev s.fr) (y.ev s.fr); ⟨r.1, r.2, s.hp⟩
  | .peq n x y => match x.ev s.fr, y.ev s.fr with
    | .ptr h L _ _, .nilp => ⟨alive s.hp h L, .bool n, s.hp⟩
    | a, b => let r := dPeq n a b; ⟨r.1, r.2, s.hp⟩
  | .aeq n m x y => let r := dAeq n m (x.ev s.fr) (y.ev s.fr); ⟨r.1, r.2, s.hp⟩
  | .un op x => let r := dUn op (x.ev s.fr); ⟨r.1, r.2, s.hp⟩
  | .mark x => match x.ev s.fr with
    | .own h L off len =>
      match s.hp[h]? with
      | some o => ⟨o.k = .imm ∧ o.es.length = L ∧ off = 0 ∧ len = L ∧ 0 < L, .sl o.es, s.hp.set h { o with k := .dead }⟩
      | none => no
    | _ => no
  | .slA n x hi => match x.ev s.fr, hi.ev s.fr with
    | .ptr h L i j, .int _ m =>
      match s.hp[h]? with
      | some o => ⟨o.k = .loc ∧ L = 1 ∧ i = 0 ∧ j = 0 ∧ o.z = n ∧ o.es.length = 1 ∧ (o.es.getD 0 []).length = n ∧ 1 < n ∧ 0 ≤ m ∧ m ≤ n, .own h n 0 m.toNat, s.hp.set h ⟨.loc, 1, (o.es.getD 0 []).map fun d => [d]⟩⟩
      | none => no
    | _, _ => no
  | .conv k x => match x.ev s.fr with
    | .int _ n => ⟨True, .int k (k.wrap n), s.hp⟩
    | _ => no
  | .s2b x => match x.ev s.fr with
    | .str b => ⟨True, .sl (b.map fun c => [.int .u8 c.toNat]), s.hp⟩
    | _ => no
  | .b2s x => let r := elemsOf s.hp (x.ev s.fr)
    ⟨r.pre ∧ (match x.ev s.fr with | .str _ => False | _ => True) ∧ (∀ e ∈ r.es, ∃ n, e = [.int .u8 n]), .str (r.es.map fun e => match e with | [.int _ n] => UInt8.ofNat n.toNat | _ => 0), s.hp⟩
  | .snil n x => match x.ev s.fr with
    | .nil => ⟨True, .bool (!n), s.hp⟩
    | .sl [] => ⟨True, .anyb, s.hp⟩
    | .sl (_ :: _) => ⟨True, .bool n, s.hp⟩
    | .own h L _ len => ⟨alive s.hp h L, if 0 < len then .bool n else .anyb, s.hp⟩
    | _ => no
  | .len x => match x.ev s.fr with
    | .sl es => ⟨True, .int .i64 es.length, s.hp⟩
    | .nil => ⟨True, .int .i64 0, s.hp⟩
    | .own h L _ n => ⟨alive s.hp h L, .int .i64 n, s.hp⟩
    | _ => no
  | .lenS x => match x.ev s.fr with
    | .str b => ⟨True, .int .i64 b.length, s.hp⟩
    | _ => no
  | .minmax mx x y => match x.ev s.fr, y.ev s.fr with
    | .int k a, .int k' b => ⟨k = k', .int k (if mx then max a b else min a b), s.hp⟩
    | _, _ => no
  | .load sz p => let r := dLoad sz (cellsAt s.hp (p.ev s.fr)); ⟨r.1, r.2, s.hp⟩
  | .store n p v => dStore s.hp n (p.ev s.fr) (v.ev s.fr)
  | .faddr off p => match p.ev s.fr with
    | .ref cs => ⟨True, .ref (cs.drop off), s.hp⟩
    | .ptr h L i j => ⟨alive s.hp h L, .ptr h L i (j + off), s.hp⟩
    | _ => no
  | .field off sz x => match x.ev s.fr with
    | .agg cs => let r := dLoad sz (True, cs.drop off); ⟨r.1, r.2, s.hp⟩
    | _ => no
  | .iaddr z x i => match x.ev s.fr, i.ev s.fr with
    | .sl es, .int _ n => ⟨(es.getD n.toNat []).length = z ∧ 0 ≤ n ∧ n < es.length, .ref (es.getD n.toNat []), s.hp⟩
    | .own h L off len, .int _ n =>
      match s.hp[h]? with
      | some o => ⟨o.k ≠ .dead ∧ o.z = z ∧ o.es.length = L ∧ 0 ≤ n ∧ n < len, .ptr h L (off + n.toNat) 0, s.hp⟩
      | none => no
    | _, _ => no
  | .iaddrA n z p i => match p.ev s.fr, i.ev s.fr with
    | .ref cs, .int _ m => ⟨0 ≤ m ∧ m < n, .ref (cs.drop (m.toNat * z)), s.hp⟩
    | .ptr h L i j, .int _ m => ⟨alive s.hp h L ∧ 0 ≤ m ∧ m < n, .ptr h L i (j + m.toNat * z), s.hp⟩
    | _, _ => no
  | .index x i => match x.ev s.fr, i.ev s.fr with
    | .str b, .int _ n => ⟨0 ≤ n ∧ n < b.length, .int .u8 (b.getD n.toNat 0).toNat, s.hp⟩
    | _, _ => no
  | .sliceS x lo hi => let r := dSliceS (x.ev s.fr) (lo.map (·.ev s.fr)) (hi.map (·.ev s.fr)); ⟨r.1, r.2, s.hp⟩
  | .slice z x lo hi mx => let r := dSlice s.hp z (x.ev s.fr) (lo.map (·.ev s.fr)) (hi.map (·.ev s.fr)) (mx.map (·.ev s.fr)); ⟨r.1, r.2, s.hp⟩
  | .make zero n c => match n.ev s.fr, c.ev s.fr with
    | .int _ a, .int _ b => ⟨0 ≤ a ∧ a ≤ b ∧ b ≤ lenCap zero, .own s.hp.length a.toNat 0 a.toNat, s.hp ++ [⟨.imm, zero.length, List.replicate a.toNat zero⟩]⟩
    | _, _ => no
  | .bslice imm zero parts =>
    let es := parts.map (bRow s.fr zero)
    let y := fzLL s.hp es
    let u := parts.all (bU s.fr zero)
    if imm then ⟨u = true ∧ y.pre ∧ (∀ e ∈ y.vals, e.length = zero.length), .sl y.vals, y.hp⟩
    else ⟨u = true ∧ y.pre ∧ (∀ e ∈ y.vals, e.length = zero.length), .own y.hp.length y.vals.length 0 y.vals.length, y.hp ++ [⟨.imm, zero.length, y.vals⟩]⟩
  | .build zero parts => let b := buildCells zero s.fr parts; ⟨b.1, .agg b.2, s.hp⟩
  | .alloc zero => ⟨True, .ptr s.hp.length 1 0 0, s.hp ++ [⟨.loc, zero.length, [zero]⟩]⟩
  | .box x => ⟨∀ d ∈ cellsOf (x.ev s.fr), d.one = true, .ptr s.hp.length 1 0 0, s.hp ++ [⟨.loc, (cellsOf (x.ev s.fr)).length, [cellsOf (x.ev s.fr)]⟩]⟩
  | .append z a x => dAppend s.hp z (a.ev s.fr) (x.ev s.fr)
  | .bown zero parts => ⟨parts.all (bU s.fr zero) = true ∧ (∀ e ∈ parts.map (bRow s.fr zero), e.length = zero.length), .own s.hp.length parts.length 0 parts.length, s.hp ++ [⟨.loc, zero.length, parts.map (bRow s.fr zero)⟩]⟩
  | .appl z a x => match a.ev s.fr, x.ev s.fr with
    | .own h L off len, .own h2 L2 off2 len2 =>
      match s.hp[h]?, s.hp[h2]? with
      | some o, some o2 => ⟨(o.k = .loc ∨ (o.k = .imm ∧ o.es = [])) ∧ o.z = z ∧ o.es.length = L ∧ off = 0 ∧ len = L ∧ o2.k = .loc ∧ o2.z = z ∧ o2.es.length = L2 ∧ off2 = 0 ∧ len2 = L2 ∧ 0 < L2 ∧ (∀ r ∈ o2.es, ∀ d ∈ r, d.one = true) ∧ L + L2 ≤ lenMax,
          .own h (L + L2) 0 (L + L2), s.hp.set h ⟨.loc, z, o.es ++ o2.es⟩⟩
      | _, _ => no
    | _, _ => no
  | .extract i x => match x.ev s.fr with
    | .tup vs => ⟨i < vs.length, vs.getD i .undef, s.hp⟩
    | _ => no
  | .nilck x => match x.ev s.fr with
    | .ptr h L i j => ⟨alive s.hp h L, .ptr h L i j, s.hp⟩
    | .ref cs => ⟨True, .ref cs, s.hp⟩
    | .clo f cs => ⟨True, .clo f cs, s.hp⟩
    | .meth f cs => ⟨True, .meth f cs, s.hp⟩
    | _ => no
  | .mkfun f caps => ⟨True, .clo f (caps.map (·.ev s.fr)), s.hp⟩
  | .mkmeth f fst => ⟨True, .meth f (fst.map (·.ev s.fr)), s.hp⟩
  | .callP f args => dCallP C s.hp f (args.map (·.ev s.fr))
  | .callH f args => C.h f (args.map (·.ev s.fr)) s.hp
  | .cl b z f args => match hdl (get b s.fr) with
    | some k => match s.hp[k]? with
      | some o => match (C.h f (args.map (·.ev s.fr)) (List.replicate k ⟨.dead, 0, []⟩ ++ [o])).hp[k]? with
        | some o' => ⟨o.z = z ∧ (args.map (·.ev s.fr)).all (onlyH k) = true ∧ (C.h f (args.map (·.ev s.fr)) (List.replicate k ⟨.dead, 0, []⟩ ++ [o])).pre ∧ o.k = .loc ∧ (∀ r ∈ o.es, ∀ d ∈ r, d.immB = true) ∧ o'.k = .loc ∧ o'.es.length = o.es.length ∧ (∀ r ∈ o'.es, ∀ d ∈ r, d.immB = true) ∧
            immR (C.h f (args.map (·.ev s.fr)) (List.replicate k ⟨.dead, 0, []⟩ ++ [o])).val = true,
            (C.h f (args.map (·.ev s.fr)) (List.replicate k ⟨.dead, 0, []⟩ ++ [o])).val, s.hp.set k o'⟩
        | none => no
      | none => no
    | none => no
  | .clo h b z f args => match hdl (get b s.fr) with
    | some k => match s.hp[k]?, s.hp[h]? with
      | some o, some od => match (C.h f (args.map (·.ev s.fr)) (List.replicate k ⟨.dead, 0, []⟩ ++ [o])).val with
        | .own n L off len => match (C.h f (args.map (·.ev s.fr)) (List.replicate k ⟨.dead, 0, []⟩ ++ [o])).hp[k]?, (C.h f (args.map (·.ev s.fr)) (List.replicate k ⟨.dead, 0, []⟩ ++ [o])).hp[n]? with
          | some o', some ob => ⟨o.z = z ∧ (args.map (·.ev s.fr)).all (onlyH k) = true ∧ (C.h f (args.map (·.ev s.fr)) (List.replicate k ⟨.dead, 0, []⟩ ++ [o])).pre ∧ o.k = .loc ∧ (∀ r ∈ o.es, ∀ d ∈ r, d.immB = true) ∧ o'.k = .loc ∧ o'.es.length = o.es.length ∧ (∀ r ∈ o'.es, ∀ d ∈ r, d.immB = true) ∧
              od.k = .dead ∧ od.es = [] ∧ k < n ∧ ob.k = .imm ∧ ob.es.length = L ∧ (L = 0 → len = 0),
              if L = 0 then .sl [] else .own h L off len, if L = 0 then s.hp.set k o' else (s.hp.set k o').set h ob⟩
          | _, _ => no
        | _ => no
      | _, _ => no
    | none => no
  | .callvP g args => match g.ev s.fr with
    | .clo f caps => dCallP C s.hp f (args.map (·.ev s.fr) ++ caps)
    | .meth f fst => dCallP C s.hp f (fst ++ args.map (·.ev s.fr))
    | _ => no
  | .callvH g args => match g.ev s.fr with
    | .clo f caps => C.h f (args.map (·.ev s.fr) ++ caps) s.hp
    | .meth f fst => C.h f (fst ++ args.map (·.ev s.fr)) s.hp
    | _ => no
  | .im _ => no
  | .fz _ => no
  | .bad => no
  | .bref x => ⟨(cellsOf (x.ev s.fr)).all DV.immB = true, .ref (cellsOf (x.ev s.fr)), s.hp⟩
  | .capn x => match x.ev s.fr with | .nil => ⟨True, .int .i64 0, s.hp⟩ | _ => no
  | .home z x => match x.ev s.fr with
    | .nil => ⟨True, .own s.hp.length 0 0 0, s.hp ++ [⟨.imm, z, []⟩]⟩
    | .own h L off len => match s.hp[h]? with
      | some o => ⟨o.k = .imm ∧ o.es.length = L ∧ off = 0 ∧ len ≤ L, .own s.hp.length len 0 len, s.hp.set h ⟨.dead, o.z, o.es⟩ ++ [⟨.imm, o.z, o.es.take len⟩]⟩
      | none => no
    | _ => no
  | .appz z zero a n => dAppz s.hp z zero (a.ev s.fr) (n.ev s.fr)
  | .xload k _ p => match dLoad none (cellsAt s.hp (p.ev s.fr)) with
    | (r, .int k' n) => ⟨r ∧ k' = k, .int k n, s.hp⟩
    | _ => no
  | .xstore k _ p v => match v.ev s.fr with
    | .int k' n => ⟨(dPut s.hp (p.ev s.fr) (.int k n)).pre ∧ k' = k, .tup [], (dPut s.hp (p.ev s.fr) (.int k n)).hp⟩
    | _ => no
  | .xadd k _ p v => match dLoad none (cellsAt s.hp (p.ev s.fr)), v.ev s.fr with
    | (r, .int k1 a), .int k2 b => ⟨r ∧ (dPut s.hp (p.ev s.fr) (.int k (k.wrap (a + b)))).pre ∧ k1 = k ∧ k2 = k, .int k (k.wrap (a + b)), (dPut s.hp (p.ev s.fr) (.int k (k.wrap (a + b)))).hp⟩
    | _, _ => no
  | .xcas k _ p o n => match dLoad none (cellsAt s.hp (p.ev s.fr)), o.ev s.fr, n.ev s.fr with
    | (r, .int k1 a), .int k2 b, .int k3 c => if a = b then ⟨r ∧ (dPut s.hp (p.ev s.fr) (.int k c)).pre ∧ k1 = k ∧ k2 = k ∧ k3 = k, .bool true, (dPut s.hp (p.ev s.fr) (.int k c)).hp⟩
      else ⟨r ∧ (dPut s.hp (p.ev s.fr) (.int k c)).pre ∧ k1 = k ∧ k2 = k ∧ k3 = k, .bool false, s.hp⟩
    | _, _, _ => no
  | .copy z d x => let src := elemsOf s.hp (x.ev s.fr)
    match d.ev s.fr with
    | .own h L off len => match s.hp[h]? with
      | some o => ⟨(match x.ev s.fr with | .str _ => False | _ => True) ∧ src.pre ∧ (∀ e ∈ src.es, e.length = z) ∧ o.k = .imm ∧ o.z = z ∧ o.es.length = L ∧ off + len ≤ L,
          .int .i64 (min src.es.length len : Nat), s.hp.set h ⟨.imm, o.z, o.es.take off ++ src.es.take len ++ o.es.drop (off + min src.es.length len)⟩⟩
      | none => no
    | _ => no
  | .aa h zero => match s.hp[h]? with
    | some o => ⟨o.k = .dead ∧ o.es = [], .ptr h 1 0 0, s.hp.set h ⟨.loc, zero.length, [zero]⟩⟩
    | none => no
  | .rk _ _ => no
  | .tk _ _ _ => no
  | .rd _ => no
  | .rz _ _ => no
  | .to _ _ => no
  | .ei _ _ => no
  | .al _ => no

/-- 0: looks at no heap; 1: reads it; 2: may freeze what is there; 4: makes an object; 5: freezes, and may make an object; 3: other. -/
def DOp.kind : DOp → Nat
  | .bref _ | .capn _ | .mv _ | .pick .. | .bin .. | .beq .. | .aeq .. | .un .. | .conv .. | .s2b _ | .same _ | .lenS _ | .minmax .. | .field .. | .index .. | .sliceS .. | .build .. | .extract .. | .mkfun .. | .mkmeth .. => 0
  | .peq .. | .b2s _ | .snil .. | .len _ | .load .. | .faddr .. | .iaddr .. | .iaddrA .. | .slice .. | .nilck _ => 1
  | .callP .. | .callvP .. | .mvf _ => 2
  | .alloc _ | .box _ | .make .. | .mkown .. => 4
  | .bslice .. => 5
  | _ => 3

/-- No change but in the object of a handle. -/
def Only (o : Option Nat) (hp hp' : List DObj) : Prop := ∀ h, h < hp.length → o ≠ some h → hp'[h]? = hp[h]?

/-- The same object, but for the cells from a place on. -/
def Low (lo : Nat) : Option DObj → Option DObj → Prop
  | some x, some y => y.k = x.k ∧ y.z = x.z ∧ y.es.length = x.es.length ∧ ∀ i, (y.es.getD i []).length = (x.es.getD i []).length ∧ (y.es.getD i []).take lo = (x.es.getD i []).take lo
  | none, none => True
  | _, _ => False

def OnlyK (o : Option Nat) (lo : Nat) (hp hp' : List DObj) : Prop := ∀ h, (o ≠ some h → hp'[h]? = hp[h]?) ∧ (o = some h → Low lo hp[h]? hp'[h]?)

def viaLow (lo : Nat) (fr : List (Nat × DV)) : DOp → Prop
  | .load none x => match x.ev fr with | .ptr _ _ _ j => j < lo | _ => True
  | .load (some n) x => match x.ev fr with | .ptr _ _ _ j => j + n ≤ lo | _ => True
  | .nilck _ | .faddr _ _ | .len _ | .iaddr _ _ _ | .iaddrA _ _ _ _ => True
  | _ => False

def sepB : DV → DV → Prop
  | .ptr h _ _ _, .ptr h' _ _ _ => h ≠ h'
  | .ptr h _ _ _, .own h' _ _ _ => h ≠ h'
  | .own h _ _ _, .ptr h' _ _ _ => h ≠ h'
  | .own h _ _ _, .own h' _ _ _ => h ≠ h'
  | .agg [.ptr h _ _ _], .ptr h' _ _ _ => h ≠ h'
  | .agg [.ptr h _ _ _], .own h' _ _ _ => h ≠ h'
  | .ptr h _ _ _, .agg [.ptr h' _ _ _] => h ≠ h'
  | .own h _ _ _, .agg [.ptr h' _ _ _] => h ≠ h'
  | .agg [.ptr h _ _ _], .agg [.ptr h' _ _ _] => h ≠ h'
  | _, _ => True

def sepsD : List (Nat × Nat) → List (Nat × DV) → Prop
  | [], _ => True
  | (a, b) :: r, fr => sepB (get a fr) (get b fr) ∧ sepsD r fr

/-- What an operation reads is no object of rows of z cells. -/
def notZ (z : Nat) (hp : List DObj) (d : DV) : Prop :=
  match hdl d with
  | some h => match hp[h]? with
    | some o => o.k ≠ .dead ∧ o.z ≠ z
    | none => False
  | none => True
def viaZ (z : Nat) (s : DS) : DOp → Prop
  | .load _ (.t n) | .faddr _ (.t n) | .nilck (.t n) | .len (.t n) => notZ z s.hp (get n s.fr)
  | .iaddr _ (.t n) _ | .iaddrA _ _ (.t n) _ => notZ z s.hp (get n s.fr)
  | _ => False

open Classical in
/-- An operation, or a reading of what never changes. -/
noncomputable def dvalX (C : Orc) (op : DOp) (s : DS) : Res :=
  match op with
  | .im d => ⟨d.kind = 1 ∧ (dval C d ⟨s.fr, []⟩).pre, (dval C d ⟨s.fr, []⟩).val, s.hp⟩
  | .rk lo d => ⟨(dval C d s).pre ∧ viaLow lo s.fr d ∧ (dval C d s).hp = s.hp, (dval C d s).val, s.hp⟩
  | .tk b lo d => ⟨(dval C d s).pre ∧ OnlyK (hdl (get b s.fr)) lo s.hp (dval C d s).hp, (dval C d s).val, (dval C d s).hp⟩
  | .fz d => ⟨(dval C d s).pre ∧ (fzV (dval C d s).hp (dval C d s).val).pre, (fzV (dval C d s).hp (dval C d s).val).val, (fzV (dval C d s).hp (dval C d s).val).hp⟩
  | .rd d => ⟨(dval C d s).pre ∧ (dval C d s).hp = s.hp, (dval C d s).val, s.hp⟩
  | .rz z d => ⟨(dval C d s).pre ∧ viaZ z s d, (dval C d s).val, s.hp⟩
  | .to b d => ⟨(dval C d s).pre ∧ Only (hdl (get b s.fr)) s.hp (dval C d s).hp, (dval C d s).val, (dval C d s).hp⟩
  | .al d => ⟨(dval C d s).pre ∧ ∃ t, (dval C d s).hp = s.hp ++ t, (dval C d s).val, (dval C d s).hp⟩
  | .ei f args => if (dval C (.callH f args) s).pre then dval C (.callH f args) s else dval C (.callP f args) s
  | d => dval C d s

def DS.put (s : DS) (dst : Option Nat) (r : Res) : DS :=
  match dst with
  | some d => ⟨(d, r.val) :: s.fr, r.hp⟩
  | none => ⟨s.fr, r.hp⟩

/-- One operation: what it asks, and the state behind it. -/
def dstep (C : Orc) (o : DOper) (s : DS) (K : DS → Prop) : Prop :=
  match o.guard with
  | none => (dvalX C o.op s).pre ∧ K (s.put o.dst (dvalX C o.op s))
  | some (g, b) =>
    match get g s.fr with
    | .bool b' => if b' = b then (dvalX C o.op s).pre ∧ K (s.put o.dst (dvalX C o.op s)) else K (s.put o.dst ⟨True, .tup [], s.hp⟩)
    | .tup [] => K (s.put o.dst ⟨True, .tup [], s.hp⟩)
    | _ => False

def dops (C : Orc) : List DOper → DS → (DS → Prop) → Prop
  | [], s, K => K s
  | o :: r, s, K => dstep C o s (fun s' => dops C r s' K)

inductive DCode where
  | skip
  | ops (draw : Bool) (l : List DOper)
  | opsS (seps : List (Nat × Nat)) (l : List (Nat × DOper))   -- the same, where slots hold unlike handles
  | opsP (l : List (Nat × DOper))                     -- a region that draws, in an order of the reading's own
  | seq (a b : DCode)
  | cond (c : DA) (a b : DCode)
  | block (id : Nat) (c : DCode)
  | loop (live : List Nat) (m : Option Nat) (c : DCode)
  | gown (t off z : Nat) (c : DCode)                     -- the reading's own: a nil slice in a field is to grow
  | scope (c : DCode)
  | rangeF (live : List Nat) (m : Option Nat) (g : DA) (ps : List Nat) (asg c : DCode)   -- a range over a function
  | rsv (c : DCode)                                        -- the reading's own: a place is kept for an object
  | bad
  | cut (live : List Nat) (m : Option Nat) (c : DCode)     -- the reading's own: what is not named is forgotten here
  | exit (id : Nat)
  | ret

inductive DExit where
  | normal
  | exit (id : Nat)
  | ret

mutual
/-- Does a value name handles below m alone? -/
def DV.inB (m : Nat) : DV → Bool
  | .own h _ _ _ => h < m
  | .ptr h _ _ _ => h < m
  | .agg cs => DV.inBL m cs
  | .tup cs => DV.inBL m cs
  | .clo _ cs => DV.inBL m cs
  | .meth _ cs => DV.inBL m cs
  | _ => true
def DV.inBL (m : Nat) : List DV → Bool
  | [] => true
  | d :: r => d.inB m && DV.inBL m r
end

def DV.cut (m : Nat) (d : DV) : DV := if d.inB m then d else .undef

def DObj.cut (m : Nat) (o : DObj) : DObj :=
  if o.k = .loc then { o with es := o.es.map fun r => r.map (DV.cut m) } else o

/-- The state at a loop's head: the slots that live, the handles below m (or all). -/
def DS.cut (s : DS) (live : List Nat) : Option Nat → DS
  | some m => ⟨live.map fun t => (t, (get t s.fr).cut m), (s.hp.take m).map (DObj.cut m)⟩
  | none => ⟨live.map fun t => (t, get t s.fr), s.hp⟩

def DExit.then (next : DS → Prop) (Q : DExit → DS → Prop) : DExit → DS → Prop
  | .normal, s => next s
  | e, s => Q e s

def DExit.inBlock (id : Nat) (Q : DExit → DS → Prop) : DExit → DS → Prop
  | .exit id', s => if id' = id then Q .normal s else Q (.exit id') s
  | e, s => Q e s

def DExit.only (next : DS → Prop) : DExit → DS → Prop
  | .normal, s => next s
  | _, _ => False

/-- What an iterator holds, told without handles: a cell of its own (one at most) by what it holds; and the heap without that cell. -/
def capsOf (hp : List DObj) : List DV → Prop × List DV × List DObj
  | [] => (True, [], hp)
  | .ptr h L i j :: r =>
    match hp[h]? with
    | some o => (o.k = .loc ∧ o.es.length = 1 ∧ L = 1 ∧ i = 0 ∧ j = 0 ∧ (∀ d ∈ o.es.getD 0 [], d.immB = true) ∧ r.all DV.immB = true, .agg (o.es.getD 0 []) :: r, hp.set h { o with k := .dead })
    | none => (False, [], hp)
  | d :: r => (d.immB = true ∧ (capsOf hp r).1, d :: (capsOf hp r).2.1, (capsOf hp r).2.2)

/-- The other way: what such an iterator is handed, and the heap of its own. -/
def openC : List DV → List DV × List DObj
  | [] => ([], [])
  | .agg row :: r => (.ptr 0 1 0 0 :: r, [⟨.loc, row.length, [row]⟩])
  | d :: r => (d :: (openC r).1, (openC r).2)

theorem openC_imm : ∀ (caps : List DV), caps.all DV.immB = true → openC caps = (caps, [])
  | [], _ => rfl
  | d :: r, h => by
    simp only [List.all_cons, Bool.and_eq_true] at h
    have ih := openC_imm r h.2
    cases d <;> first | (simp [DV.immB] at h; done) | simp [openC, ih]
theorem openC_len : ∀ (caps : List DV), (openC caps).1.length = caps.length
  | [] => rfl
  | d :: r => by cases d <;> simp [openC, openC_len r]

def dwp (C : Orc) (h0 : Nat) : DCode → (DExit → DS → Prop) → DS → Prop
  | .skip, Q, s => Q .normal s
  | .ops _ l, Q, s => dops C l s (Q .normal)
  | .opsS seps l, Q, s => sepsD seps s.fr ∧ dops C (l.map (·.2)) s (Q .normal)
  | .opsP l, Q, s => dops C (l.map (·.2)) s (Q .normal)
  | .seq a b, Q, s => dwp C h0 a (DExit.then (dwp C h0 b Q) Q) s
  | .cond c a b, Q, s =>
    match c.ev s.fr with
    | .bool t => (t = true → dwp C h0 a Q s) ∧ (t = false → dwp C h0 b Q s)
    | .anyb => dwp C h0 a Q s ∧ dwp C h0 b Q s
    | _ => False
  | .block id c, Q, s => dwp C h0 c (DExit.inBlock id Q) s
  | .loop live m c, Q, s => (match m with | some k => h0 ≤ k | none => True) ∧ ∃ (I : DS → Prop) (μ : DS → Nat), I (s.cut live m) ∧
      ∀ s', I s' → dwp C h0 c (DExit.then (fun s'' => I (s''.cut live m) ∧ μ (s''.cut live m) < μ s') Q) s'
  | .gown t off z c, Q, s => match get t s.fr with
    | .ptr h L i j => match s.hp[h]? with
      | some o => ((o.k = .loc ∧ o.es.length = L ∧ i < L ∧ (o.es.getD i [])[j + off]? = some .nil) ∧
          dwp C h0 c Q ⟨s.fr, s.hp.set h { o with es := o.es.set i ((o.es.getD i []).set (j + off) (.own s.hp.length 0 0 0)) } ++ [⟨.imm, z, []⟩]⟩) ∨ dwp C h0 c Q s
      | none => False
    | _ => False
  | .scope c, Q, s => dwp C h0 c Q s
  | .rangeF live m g ps asg c, Q, s => (match m with | some k => h0 ≤ k | none => True) ∧
      match g.ev s.fr with
      | .clo f caps => (C.i f (capsOf (s.cut live m).hp caps).2.1).1 ∧ (capsOf (s.cut live m).hp caps).1 ∧ ∃ I : Nat → List DObj → Prop, I 0 (capsOf (s.cut live m).hp caps).2.2 ∧
          (∀ k x hp, I k hp → (C.i f (capsOf (s.cut live m).hp caps).2.1).2[k]? = some x → x.length = ps.length ∧
            dwp C hp.length asg (DExit.only fun s1 => dwp C s1.hp.length c (DExit.then (fun s' => I (k + 1) (s'.cut [] m).hp) (fun e s' => Q e ⟨(s.cut live m).fr, s'.hp⟩)) s1) ⟨ps.zip x ++ (s.cut live m).fr, hp⟩) ∧
          ∀ hp, I (C.i f (capsOf (s.cut live m).hp caps).2.1).2.length hp → Q .normal ⟨(s.cut live m).fr, hp⟩
      | _ => False
  | .rsv c, Q, s => dwp C h0 c Q ⟨s.fr, s.hp ++ [⟨.dead, 0, []⟩]⟩
  | .bad, _, _ => False
  | .cut live m c, Q, s => (match m with | some k => h0 ≤ k | none => True) ∧ dwp C h0 c Q (s.cut live m)
  | .exit id, Q, s => Q (.exit id) s
  | .ret, Q, s => Q .ret s

end Go.Nk

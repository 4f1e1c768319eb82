/- The data level: values, heaps, operations and codes of a small functional reading of the program's code. -/
import Derived.WalkKit
import Derived.Deep.AppendSrc
import Derived.Deep.Draws
import Derived.Laws.StructEq
set_option linter.all false
namespace Go.Nk
open Go.RowKit
inductive DV where
 | undef
 | int (k : IntKind) (n : Int)
 | bool (b : Bool)
 | str (s : List UInt8)
 | nil
 | sl (es : List (List DV))
 | own (h L off len : Nat)
 | ptr (h L i j : Nat)
 | ref (cs : List DV)
 | nilp
 | agg (cs : List DV)
 | tup (vs : List DV)
 | clo (f : FuncId) (caps : List DV)
 | meth (f : FuncId) (fst : List DV)                   -- a method with its receiver
 | yld (l : Nat)                                      -- what a range over a function zuy to the function
 | mp (h : Nat)                                       -- a map of one's own
 | ifc (t : TypeId) (d : DV)                          -- an interface value: its dynamic type,what it holds
 | anyb
instance : Inhabited DV := ⟨.undef⟩
inductive Kd where
 | imm | loc | frz | dead
 | mp (es : List (List UInt8 × DV))                   -- a map: its entries; such an object has no rows
noncomputable section
open Classical in
instance : DecidableEq Kd
 | .imm,.imm | .loc,.loc | .frz,.frz | .dead,.dead => isTrue rfl
 | .mp a,.mp b => if h : a = b then isTrue (h ▸ rfl) else isFalse fun e => h (by injection e)
 | .imm,.loc | .imm,.frz | .imm,.dead | .imm,.mp _ | .loc,.imm | .loc,.frz | .loc,.dead | .loc,.mp _ | .frz,.imm | .frz,.loc | .frz,.dead | .frz,.mp _
 | .dead,.imm | .dead,.loc | .dead,.frz | .dead,.mp _ | .mp _,.imm | .mp _,.loc | .mp _,.frz | .mp _,.dead => isFalse (by intro h; cases h)
structure DObj where
 k : Kd
 z : Nat
 es : List (List DV)
instance : Inhabited DObj := ⟨⟨.dead,0,[]⟩⟩
def DV.one : DV -> Bool
 | .agg _ | .tup _ | .undef => false
 | _ => true
def DV.immB : DV -> Bool
 | .int .. | .bool _ | .str _ | .nil | .sl .. | .ref _ | .nilp | .ifc .. => true
 | _ => false
def DV.isU : DV -> Bool
 | .undef => true
 | _ => false
def z1 (es : List (List DV)) (i j : Nat) : Option DV := (es[i]?).bind (·[j]?)
def get (n : Nat) : List (Nat × DV) -> DV
 | [] => .undef
 | (m,d) :: r => if n = m then d else get n r
@[simp] theorem get_nil (n : Nat) : get n [] = .undef := rfl
theorem zc (n m : Nat) (d : DV) (r : List (Nat × DV)) : get n ((m,d) :: r) = if n = m then d else get n r := rfl
structure DS where
 fr : List (Nat × DV)
 hp : List DObj
inductive DA where
 | t (n : Nat)
 | c (d : DV)
def DA.ev (fr : List (Nat × DV)) : DA -> DV
 | .t n => get n fr
 | .c d => d
structure Res where
 pre : Prop
 val : DV
 hp : List DObj
def no : Res := ⟨False,.undef,[]⟩
def z9u (op : BinOp) (k : IntKind) (x y : Int) : Int :=
 let a := BitVec.ofInt k.bits x
 let b := BitVec.ofInt k.bits y
 match op with
 | .and => k.wrap (a &&& b).toNat
 | .or => k.wrap (a ||| b).toNat
 | .xor => k.wrap (a ^^^ b).toNat
 | _ => k.wrap (a &&& ~~~b).toNat
def dInt (op : BinOp) (k : IntKind) (a b : Int) : Prop × DV :=
 match op with
 | .add => (True,.int k (k.wrap (a + b)))
 | .sub => (True,.int k (k.wrap (a - b)))
 | .mul => (True,.int k (k.wrap (a * b)))
 | .quo => (b ≠ 0,.int k (k.wrap (a.tdiv b)))
 | .rem => (b ≠ 0,.int k (a.tmod b))
 | .and | .or | .xor | .andNot => (True,.int k (z9u op k a b))
 | .eql => (True,.bool (a == b))
 | .neq => (True,.bool (a != b))
 | .lss => (True,.bool (a < b))
 | .leq => (True,.bool (a <= b))
 | .gtr => (True,.bool (a > b))
 | .geq => (True,.bool (a ≥ b))
 | _ => (False,.undef)
def strMax : Nat := 4611686018427387904
def dStr (op : BinOp) (a b : List UInt8) : Prop × DV :=
 match op with
 | .add => (a.length + b.length <= strMax,.str (a ++ b))
 | .eql => (True,.bool (a == b))
 | .neq => (True,.bool (!(a == b)))
 | .lss => (True,.bool (Op.bytesLess a b))
 | .leq => (True,.bool (Op.bytesLess a b || a == b))
 | .gtr => (True,.bool (!(Op.bytesLess a b || a == b)))
 | .geq => (True,.bool (!(Op.bytesLess a b)))
 | _ => (False,.undef)
def zbt : List Nat -> List DV -> List DV -> Option Bool
 | [],[],[] => some true
 | 0 :: ks,.int k a :: r,.int k' b :: s => if k = k' then (if a == b then zbt ks r s else some false) else none
 | 1 :: ks,.bool a :: r,.bool b :: s => if a == b then zbt ks r s else some false
 | 2 :: ks,.str a :: r,.str b :: s => if a == b then zbt ks r s else some false
 | _,_,_ => none
def dBin (op : BinOp) : DV -> DV -> Prop × DV
 | .int k a,.int k' b =>
   match op with
   | .shl => (0 <= b,.int k (k.wrap (a * 2 ^ (min b.toNat k.bits))))
   | .shr => (0 <= b,.int k (a.fdiv (2 ^ (min b.toNat k.bits))))
   | _ => if k = k' then dInt op k a b else (False,.undef)
 | .str a,.str b => dStr op a b
 | _,_ => (False,.undef)
def dBeq (neg : Bool) : DV -> DV -> Prop × DV
 | .bool a,.bool b => (True,.bool (if neg then !(a == b) else a == b))
 | _,_ => (False,.undef)
def dAeq (neg : Bool) (ks : List Nat) : DV -> DV -> Prop × DV
 | .agg a,.agg b => match zbt ks a b with | some r => (a.length = ks.length /\ b.length = ks.length,.bool (if neg then !r else r)) | none => (False,.undef)
 | _,_ => (False,.undef)
def dUn (op : UnOp) : DV -> Prop × DV
 | .int k n =>
   match op with
   | .neg => (True,.int k (k.wrap (0 - n)))
   | .xor => (True,.int k (z9u .xor k (if k.signed then -1 else k.max) n))
   | _ => (False,.undef)
 | .bool b =>
   match op with
   | .not => (True,.bool (!b))
   | _ => (False,.undef)
 | _ => (False,.undef)
def za (hp : List DObj) : DV -> Prop × List DV
 | .ref cs => (True,cs)
 | .ptr h L i j =>
   match hp[h]? with
   | some o => if o.k = .dead then (False,[]) else (o.es.length = L /\ i < L,(o.es.getD i []).drop j)
   | none => (False,[])
 | _ => (False,[])
def zh (sz : Option Nat) (x : Prop × List DV) : Prop × DV :=
 match sz with
 | none => (x.1 /\ 0 < x.2.length,x.2.getD 0 .undef)
 | some n => (x.1 /\ n <= x.2.length,.agg (x.2.take n))
def cellsOf : DV -> List DV
 | .agg cs => cs
 | d => [d]
def zk : List DV -> Nat -> List DV -> List DV
 | row,_,[] => row
 | row,j,c :: cs => zk (row.set j c) (j + 1) cs
structure Elems where
 pre : Prop
 es : List (List DV)
def zy (hp : List DObj) : DV -> Elems
 | .nil => ⟨True,[]⟩
 | .sl es => ⟨True,es⟩
 | .own h L off len =>
   match hp[h]? with
   | some o => if o.k = .imm \/ o.k = .frz then ⟨o.es.length = L /\ off + len <= L,(o.es.drop off).take len⟩ else ⟨False,[]⟩
   | none => ⟨False,[]⟩
 | .str s => ⟨True,s.map fun b => [.int .u8 b.toNat]⟩
 | _ => ⟨False,[]⟩
def freezeAt (hp : List DObj) (h : Nat) : List DObj :=
 match hp[h]? with
 | some o => hp.set h { o with k := .frz }
 | none => hp
def capV (hp : List DObj) : DV -> Prop × DV
 | .ptr h L i j => match hp[h]? with
   | some o => (o.k ≠ .dead /\ o.es.length = L /\ i < L /\ ∀ r ∈ o.es,∀ c ∈ r,c.immB = true,.ref ((o.es.getD i []).drop j))
   | none => (False,.undef)
 | d => (d.immB = true,d)
def capVL (hp : List DObj) : List DV -> Prop × List DV
 | [] => (True,[])
 | d :: r => ((capV hp d).1 /\ (capVL hp r).1,(capV hp d).2 :: (capVL hp r).2)
def fz1 (hp : List DObj) (d : DV) : Res :=
 match d with
 | .own h _ _ _ => ⟨(zy hp d).pre,.sl (zy hp d).es,freezeAt hp h⟩
 | .nil => ⟨True,.sl [],hp⟩
 | .clo f cs => ⟨cs.all DV.immB = true,.clo f cs,hp⟩
 | _ => if d.immB then ⟨True,d,hp⟩ else ⟨False,.undef,hp⟩
structure ResL where
 pre : Prop
 vals : List DV
 hp : List DObj
def fzL (hp : List DObj) : List DV -> ResL
 | [] => ⟨True,[],hp⟩
 | d :: r =>
   let x := fz1 hp d
   let y := fzL x.hp r
   ⟨x.pre /\ y.pre,x.val :: y.vals,y.hp⟩
structure ResLL where
 pre : Prop
 vals : List (List DV)
 hp : List DObj
def fzLL (hp : List DObj) : List (List DV) -> ResLL
 | [] => ⟨True,[],hp⟩
 | d :: r =>
   let x := fzL hp d
   let y := fzLL x.hp r
   ⟨x.pre /\ y.pre,x.vals :: y.vals,y.hp⟩
def fzV (hp : List DObj) : DV -> Res
 | .agg cs => let x := fzL hp cs; ⟨x.pre,.agg x.vals,x.hp⟩
 | d => fz1 hp d
def fzVs (hp : List DObj) : List DV -> ResL
 | [] => ⟨True,[],hp⟩
 | d :: r =>
   let x := fzV hp d
   let y := fzVs x.hp r
   ⟨x.pre /\ y.pre,x.val :: y.vals,y.hp⟩
def zo (hp : List DObj) (d : DV) : Prop × DV :=
 match d with
 | .own .. => ((zy hp d).pre,.sl (zy hp d).es)
 | .nil => (True,.sl [])
 | .clo f cs => ((capVL hp cs).1,.clo f (capVL hp cs).2)
 | _ => if d.immB then (True,d) else (False,.undef)
def zq : DV -> Bool
 | .int .. | .bool _ | .str _ | .nilp => true
 | _ => false
def zi : DV -> Bool
 | .tup vs => vs.all zq
 | .agg vs => vs.all zq
 | d => zq d
inductive DOp where
 | mv (x : DA)
 | mvf (x : DA)                                       -- a move; what is moved is frozen
 | mkown (z : Nat) (x : DA)                          -- a nil slice that is to grow
 | pick (c a b : DA)
 | bin (op : BinOp) (x y : DA)
 | beq (neg : Bool) (x y : DA)
 | aeq (neg : Bool) (ks : List Nat) (x y : DA)
 | un (op : UnOp) (x : DA)
 | conv (k : IntKind) (x : DA)
 | b2s (x : DA)
 | snil (neg : Bool) (x : DA)                        -- a slice held against nil
 | len (x : DA)
 | lenS (x : DA)
 | minmax (mx : Bool) (x y : DA)
 | load (sz : Option Nat) (p : DA)
 | store (n : Nat) (p v : DA)
 | faddr (off : Nat) (p : DA)
 | field (off : Nat) (sz : Option Nat) (x : DA)
 | iaddr (z : Nat) (x i : DA)
 | iaddrA (n z : Nat) (p i : DA)
 | index (x i : DA)                                  -- of a string
 | slice (z : Nat) (x : DA) (lo hi mx : Option DA)
 | sliceS (x : DA) (lo hi : Option DA)
 | make (zero : List DV) (n c : DA)
 | bslice (imm : Bool) (zero : List DV) (parts : List (Option DA))
 | build (zero : List DV) (parts : List (Nat × Nat × DA))
 | alloc (zero : List DV)
 | box (x : DA)
 | append (z : Nat) (s x : DA)
 | extract (i : Nat) (x : DA)
 | nilck (x : DA)
 | mkfun (f : FuncId) (caps : List DA)
 | callP (f : FuncId) (args : List DA)
 | callH (f : FuncId) (args : List DA)
 | callW (f : FuncId) (args : List DA)                    -- a call that is handed what a range handed to an iterator
 | callvP (f : DA) (args : List DA)
 | callvH (f : DA) (args : List DA)
 | to (b : Nat) (d : DOp)                            -- an operation that changes the object of a slot's handle alone
 | rd (d : DOp)                                      -- an operation that leaves the heap as it is
 | bad                                               -- what is not read: it must not be reached
 | bref (x : DA)                                     -- a box that is never stored to
 | capn (x : DA)                                     -- how much nil holds
 | home (z : Nat) (x : DA)                           -- an own slice,alone,with nothing behind it that is told of
 | appz (z : Nat) (zero : List DV) (s n : DA)        -- so many zeros behind a slice
 | mkif (t : TypeId) (x : DA)                         -- an interface value is made
 | aa (h : Nat) (zero : List DV)                      -- a new object at a place that is kept for it
 | rk (lo : Nat) (d : DOp)                           -- a reading,of cells ahead of a place
 | tk (b lo : Nat) (d : DOp)                         -- a call that changes the object of a slot's handle alone,and of that what stands from a place on
 | im (d : DOp)                                      -- a reading of what never changes: through slices and pointers that hold no handle
structure DOper where
 dst : Option Nat
 op : DOp
 guard : Option (Nat × Bool) := none
structure Orc where
 p : FuncId -> List DV -> Prop × DV
 h : FuncId -> List DV -> List DObj -> Res
 i : FuncId -> List DV -> Prop × List (List DV)          -- what an iterator zuy over
 w : FuncId -> List DV -> Prop × List (List DV)          -- what a function zuy over for an iterator
def zat : Nat := 4294967296
def zlr : List DV -> Nat
 | [.int .i64 0] => 17592186044416
 | _ => 4294967296
def zbq (x : Option DV) (dflt : Int) : Prop × Int :=
 match x with
 | none => (True,dflt)
 | some (.int _ n) => (True,n)
 | _ => (False,0)
def zqy (x : DV) (lo hi : Option DV) : Prop × DV :=
 match x with
 | .str s =>
   let l := zbq lo 0
   let h := zbq hi s.length
   (l.1 /\ h.1 /\ 0 <= l.2 /\ l.2 <= h.2 /\ h.2 <= s.length,.str ((s.take h.2.toNat).drop l.2.toNat))
 | _ => (False,.undef)
def zc2 (hp : List DObj) (z : Nat) (x : DV) (lo hi mx : Option DV) : Prop × DV :=
 match x with
 | .sl es =>
   let l := zbq lo 0
   let h := zbq hi es.length
   let m := zbq mx h.2
   ((∀ e ∈ es,e.length = z) /\ l.1 /\ h.1 /\ m.1 /\ (mx.isSome = true -> hi.isSome = true) /\ 0 <= l.2 /\ l.2 <= h.2 /\ h.2 <= m.2 /\ m.2 <= es.length,.sl ((es.take h.2.toNat).drop l.2.toNat))
 | .own o L off len =>
   let l := zbq lo 0
   let h := zbq hi len
   let m := zbq mx h.2
   (l.1 /\ h.1 /\ m.1 /\ (mx.isSome = true -> hi.isSome = true) /\ 0 <= l.2 /\ l.2 <= h.2 /\ h.2 <= m.2 /\ m.2 <= len /\
     (match hp[o]? with | some ob => ob.k ≠ .dead /\ ob.z = z /\ ob.es.length = L | none => False),.own o L (off + l.2.toNat) (h.2.toNat - l.2.toNat))
 | .nil =>
   let l := zbq lo 0
   let h := zbq hi 0
   let m := zbq mx 0
   (l.1 /\ h.1 /\ m.1 /\ (mx.isSome = true -> hi.isSome = true) /\ l.2 = 0 /\ h.2 = 0 /\ m.2 = 0,.nil)
 | _ => (False,.undef)
def zx (hp : List DObj) : List DV -> Prop × List DV
 | [] => (True,[])
 | d :: r => ((zo hp d).1 /\ (zx hp r).1,(zo hp d).2 :: (zx hp r).2)
def zp (hp : List DObj) : DV -> Prop × DV
 | .agg cs => ((zx hp cs).1,.agg (zx hp cs).2)
 | d => zo hp d
def zf (hp : List DObj) : List DV -> Prop × List DV
 | [] => (True,[])
 | d :: r => ((zp hp d).1 /\ (zf hp r).1,(zp hp d).2 :: (zf hp r).2)
def ze (C : Orc) (hp : List DObj) (f : FuncId) (args : List DV) : Res :=
 let v := zf hp args
 let r := C.p f v.2
 if zi r.2 then ⟨v.1 /\ r.1,r.2,hp⟩ else
   let z := fzVs hp args
   ⟨z.pre /\ (C.p f z.vals).1,(C.p f z.vals).2,z.hp⟩
def zax (hp : List DObj) (z : Nat) (s x : DV) : Res :=
 let src := zy hp x
 match s with
 | .nil => ⟨src.pre /\ src.es.length <= zat /\ (∀ e ∈ src.es,e.length = z),.own hp.length src.es.length 0 src.es.length,hp ++ [⟨.imm,z,src.es⟩]⟩
 | .own h L off len =>
   match hp[h]? with
   | some o =>
     ⟨src.pre /\ (∀ e ∈ src.es,e.length = z) /\ o.k = .imm /\ o.z = z /\ o.es.length = L /\ off = 0 /\ len = L /\ L + src.es.length <= zat,
       .own h (L + src.es.length) 0 (L + src.es.length),hp.set h ⟨.imm,z,o.es ++ src.es⟩⟩
   | none => no
 | _ => no
def dAppz (hp : List DObj) (z : Nat) (zero : List DV) (s n : DV) : Res :=
 match n with
 | .int .i64 m =>
   match s with
   | .nil => ⟨0 <= m /\ m.toNat <= zat,.own hp.length m.toNat 0 m.toNat,hp ++ [⟨.imm,z,List.replicate m.toNat zero⟩]⟩
   | .own h L off len =>
     match hp[h]? with
     | some o =>
       ⟨0 <= m /\ o.k = .imm /\ o.z = z /\ o.es.length = L /\ off = 0 /\ len = L /\ L + m.toNat <= zat,
         .own h (L + m.toNat) 0 (L + m.toNat),hp.set h ⟨.imm,z,o.es ++ List.replicate m.toNat zero⟩⟩
     | none => no
   | _ => no
 | _ => no
def zw (hp : List DObj) (n : Nat) (p v : DV) : Res :=
 match p with
 | .ptr h L i j =>
   match hp[h]? with
   | some o =>
     if o.k = .loc then
       ⟨(cellsOf v).length = n /\ o.es.length = L /\ i < L /\ j + (cellsOf v).length <= (o.es.getD i []).length /\ (∀ d ∈ cellsOf v,d.one = true),.tup [],
         hp.set h { o with es := o.es.set i (zk (o.es.getD i []) j (cellsOf v)) }⟩
     else if o.k = .imm then
       let y := fzL hp (cellsOf v)
       match y.hp[h]? with
       | some o' =>
         ⟨(cellsOf v).length = n /\ y.pre /\ o'.k = .imm /\ o.es.length = L /\ i < L /\ j + (cellsOf v).length <= (o.es.getD i []).length,.tup [],
           y.hp.set h { o with es := o.es.set i (zk (o.es.getD i []) j y.vals) }⟩
       | none => no
     else no
   | none => no
 | _ => no
def zr (cells : List DV) (fr : List (Nat × DV)) : List (Nat × Nat × DA) -> Prop × List DV
 | [] => (True,cells)
 | (off,n,x) :: r =>
   let b := zr (zk cells off (cellsOf (x.ev fr))) fr r
   ((x.ev fr).isU = false /\ (cellsOf (x.ev fr)).length = n /\ off + n <= cells.length /\ b.1,b.2)
def bRow (fr : List (Nat × DV)) (zero : List DV) : Option DA -> List DV
 | some x => cellsOf (x.ev fr)
 | none => zero
def bU (fr : List (Nat × DV)) (zero : List DV) : Option DA -> Bool
 | some x => !(x.ev fr).isU && (cellsOf (x.ev fr)).length == zero.length
 | none => true
def alive (hp : List DObj) (h L : Nat) : Prop :=
 match hp[h]? with
 | some o => o.k ≠ .dead /\ o.es.length = L
 | none => False
def hdl : DV -> Option Nat
 | .ptr h _ _ _ => some h
 | .own h _ _ _ => some h
 | .mp h => some h
 | .agg [.ptr h _ _ _] => some h
 | _ => none
def dval (C : Orc) (op : DOp) (s : DS) : Res :=
 match op with
 | .mv x => ⟨True,x.ev s.fr,s.hp⟩
 | .mvf x => fzV s.hp (x.ev s.fr)
 | .mkown z x => match x.ev s.fr with
   | .nil => ⟨True,.own s.hp.length 0 0 0,s.hp ++ [⟨.imm,z,[]⟩]⟩
   | _ => no
 | .pick c a b => match c.ev s.fr with
   | .bool true => ⟨True,a.ev s.fr,s.hp⟩
   | .bool false => ⟨True,b.ev s.fr,s.hp⟩
   | _ => no
 | .bin op x y => let r := dBin op (x.ev s.fr) (y.ev s.fr); ⟨r.1,r.2,s.hp⟩
 | .beq n x y => let r := dBeq n (x.ev s.fr) (y.ev s.fr); ⟨r.1,r.2,s.hp⟩
 | .aeq n m x y => let r := dAeq n m (x.ev s.fr) (y.ev s.fr); ⟨r.1,r.2,s.hp⟩
 | .un op x => let r := dUn op (x.ev s.fr); ⟨r.1,r.2,s.hp⟩
 | .conv k x => match x.ev s.fr with
   | .int _ n => ⟨True,.int k (k.wrap n),s.hp⟩
   | _ => no
 | .b2s x => let r := zy s.hp (x.ev s.fr)
   ⟨r.pre /\ (match x.ev s.fr with | .str _ => False | _ => True) /\ (∀ e ∈ r.es,∃ n,e = [.int .u8 n]),.str (r.es.map fun e => match e with | [.int _ n] => UInt8.ofNat n.toNat | _ => 0),s.hp⟩
 | .snil n x => match x.ev s.fr with
   | .nil => ⟨True,.bool (!n),s.hp⟩
   | .sl [] => ⟨True,.anyb,s.hp⟩
   | .sl (_ :: _) => ⟨True,.bool n,s.hp⟩
   | .own h L _ len => ⟨alive s.hp h L,if 0 < len then .bool n else .anyb,s.hp⟩
   | _ => no
 | .len x => match x.ev s.fr with
   | .sl es => ⟨True,.int .i64 es.length,s.hp⟩
   | .nil => ⟨True,.int .i64 0,s.hp⟩
   | .own h L _ n => ⟨alive s.hp h L,.int .i64 n,s.hp⟩
   | _ => no
 | .lenS x => match x.ev s.fr with
   | .str b => ⟨True,.int .i64 b.length,s.hp⟩
   | _ => no
 | .minmax mx x y => match x.ev s.fr,y.ev s.fr with
   | .int k a,.int k' b => ⟨k = k',.int k (if mx then max a b else min a b),s.hp⟩
   | _,_ => no
 | .load sz p => let r := zh sz (za s.hp (p.ev s.fr)); ⟨r.1,r.2,s.hp⟩
 | .store n p v => zw s.hp n (p.ev s.fr) (v.ev s.fr)
 | .faddr off p => match p.ev s.fr with
   | .ref cs => ⟨True,.ref (cs.drop off),s.hp⟩
   | .ptr h L i j => ⟨alive s.hp h L,.ptr h L i (j + off),s.hp⟩
   | _ => no
 | .field off sz x => match x.ev s.fr with
   | .agg cs => let r := zh sz (True,cs.drop off); ⟨r.1,r.2,s.hp⟩
   | _ => no
 | .iaddr z x i => match x.ev s.fr,i.ev s.fr with
   | .sl es,.int _ n => ⟨(es.getD n.toNat []).length = z /\ 0 <= n /\ n < es.length,.ref (es.getD n.toNat []),s.hp⟩
   | .own h L off len,.int _ n =>
     match s.hp[h]? with
     | some o => ⟨o.k ≠ .dead /\ o.z = z /\ o.es.length = L /\ 0 <= n /\ n < len,.ptr h L (off + n.toNat) 0,s.hp⟩
     | none => no
   | _,_ => no
 | .iaddrA n z p i => match p.ev s.fr,i.ev s.fr with
   | .ref cs,.int _ m => ⟨0 <= m /\ m < n,.ref (cs.drop (m.toNat * z)),s.hp⟩
   | .ptr h L i j,.int _ m => ⟨alive s.hp h L /\ 0 <= m /\ m < n,.ptr h L i (j + m.toNat * z),s.hp⟩
   | _,_ => no
 | .index x i => match x.ev s.fr,i.ev s.fr with
   | .str b,.int _ n => ⟨0 <= n /\ n < b.length,.int .u8 (b.getD n.toNat 0).toNat,s.hp⟩
   | _,_ => no
 | .sliceS x lo hi => let r := zqy (x.ev s.fr) (lo.map (·.ev s.fr)) (hi.map (·.ev s.fr)); ⟨r.1,r.2,s.hp⟩
 | .slice z x lo hi mx => let r := zc2 s.hp z (x.ev s.fr) (lo.map (·.ev s.fr)) (hi.map (·.ev s.fr)) (mx.map (·.ev s.fr)); ⟨r.1,r.2,s.hp⟩
 | .make zero n c => match n.ev s.fr,c.ev s.fr with
   | .int _ a,.int _ b => ⟨0 <= a /\ a <= b /\ b <= zlr zero,.own s.hp.length a.toNat 0 a.toNat,s.hp ++ [⟨.imm,zero.length,List.replicate a.toNat zero⟩]⟩
   | _,_ => no
 | .bslice imm zero parts =>
   let es := parts.map (bRow s.fr zero)
   let y := fzLL s.hp es
   let u := parts.all (bU s.fr zero)
   if imm then ⟨u = true /\ y.pre /\ (∀ e ∈ y.vals,e.length = zero.length),.sl y.vals,y.hp⟩
   else ⟨u = true /\ y.pre /\ (∀ e ∈ y.vals,e.length = zero.length),.own y.hp.length y.vals.length 0 y.vals.length,y.hp ++ [⟨.imm,zero.length,y.vals⟩]⟩
 | .build zero parts => let b := zr zero s.fr parts; ⟨b.1,.agg b.2,s.hp⟩
 | .alloc zero => ⟨True,.ptr s.hp.length 1 0 0,s.hp ++ [⟨.loc,zero.length,[zero]⟩]⟩
 | .box x => ⟨∀ d ∈ cellsOf (x.ev s.fr),d.one = true,.ptr s.hp.length 1 0 0,s.hp ++ [⟨.loc,(cellsOf (x.ev s.fr)).length,[cellsOf (x.ev s.fr)]⟩]⟩
 | .append z a x => zax s.hp z (a.ev s.fr) (x.ev s.fr)
 | .extract i x => match x.ev s.fr with
   | .tup vs => ⟨i < vs.length,vs.getD i .undef,s.hp⟩
   | _ => no
 | .nilck x => match x.ev s.fr with
   | .ptr h L i j => ⟨alive s.hp h L,.ptr h L i j,s.hp⟩
   | .ref cs => ⟨True,.ref cs,s.hp⟩
   | .clo f cs => ⟨True,.clo f cs,s.hp⟩
   | .meth f cs => ⟨True,.meth f cs,s.hp⟩
   | _ => no
 | .mkfun f caps => ⟨True,.clo f (caps.map (·.ev s.fr)),s.hp⟩
 | .callP f args => ze C s.hp f (args.map (·.ev s.fr))
 | .callH f args => C.h f (args.map (·.ev s.fr)) s.hp
 | .callvP g args => match g.ev s.fr with
   | .clo f caps => ze C s.hp f (args.map (·.ev s.fr) ++ caps)
   | .meth f fst => ze C s.hp f (fst ++ args.map (·.ev s.fr))
   | _ => no
 | .callvH g args => match g.ev s.fr with
   | .clo f caps => C.h f (args.map (·.ev s.fr) ++ caps) s.hp
   | .meth f fst => C.h f (fst ++ args.map (·.ev s.fr)) s.hp
   | _ => no
 | .im _ => no
 | .bad => no
 | .callW .. => no
 | .bref x => ⟨(cellsOf (x.ev s.fr)).all DV.immB = true,.ref (cellsOf (x.ev s.fr)),s.hp⟩
 | .capn x => match x.ev s.fr with | .nil => ⟨True,.int .i64 0,s.hp⟩ | _ => no
 | .home z x => match x.ev s.fr with
   | .nil => ⟨True,.own s.hp.length 0 0 0,s.hp ++ [⟨.imm,z,[]⟩]⟩
   | .own h L off len => match s.hp[h]? with
     | some o => ⟨o.k = .imm /\ o.es.length = L /\ off = 0 /\ len <= L,.own s.hp.length len 0 len,s.hp.set h ⟨.dead,o.z,o.es⟩ ++ [⟨.imm,o.z,o.es.take len⟩]⟩
     | none => no
   | _ => no
 | .appz z zero a n => dAppz s.hp z zero (a.ev s.fr) (n.ev s.fr)
 | .mkif t x => ⟨(x.ev s.fr).immB = true,.ifc t (x.ev s.fr),s.hp⟩
 | .aa h zero => match s.hp[h]? with
   | some o => ⟨o.k = .dead /\ o.es = [],.ptr h 1 0 0,s.hp.set h ⟨.loc,zero.length,[zero]⟩⟩
   | none => no
 | .rk _ _ => no
 | .tk _ _ _ => no
 | .rd _ => no
 | .to _ _ => no
def DOp.kind : DOp -> Nat
 | .bref _ | .capn _ | .mv _ | .pick .. | .bin .. | .beq .. | .aeq .. | .un .. | .conv .. | .lenS _ | .minmax .. | .field .. | .index .. | .sliceS .. | .build .. | .extract .. | .mkfun .. | .mkif .. => 0
 | .b2s _ | .snil .. | .len _ | .load .. | .faddr .. | .iaddr .. | .iaddrA .. | .slice .. | .nilck _ => 1
 | .callP .. | .callvP .. | .callW .. | .mvf _ => 2
 | .alloc _ | .box _ | .make .. | .mkown .. => 4
 | .bslice .. => 5
 | _ => 3
def Only (o : Option Nat) (hp hp' : List DObj) : Prop := ∀ h,h < hp.length -> o ≠ some h -> hp'[h]? = hp[h]?
def Low (lo : Nat) : Option DObj -> Option DObj -> Prop
 | some x,some y => y.k = x.k /\ y.z = x.z /\ y.es.length = x.es.length /\ ∀ i,(y.es.getD i []).length = (x.es.getD i []).length /\ (y.es.getD i []).take lo = (x.es.getD i []).take lo
 | none,none => True
 | _,_ => False
def OnlyK (o : Option Nat) (lo : Nat) (hp hp' : List DObj) : Prop := ∀ h,(o ≠ some h -> hp'[h]? = hp[h]?) /\ (o = some h -> Low lo hp[h]? hp'[h]?)
def zkp (lo : Nat) (fr : List (Nat × DV)) : DOp -> Prop
 | .load none x => match x.ev fr with | .ptr _ _ _ j => j < lo | _ => True
 | .load (some n) x => match x.ev fr with | .ptr _ _ _ j => j + n <= lo | _ => True
 | .nilck _ | .faddr _ _ | .len _ | .iaddr _ _ _ | .iaddrA _ _ _ _ => True
 | _ => False
def sepB : DV -> DV -> Prop
 | .ptr h _ _ _,.ptr h' _ _ _ => h ≠ h'
 | .ptr h _ _ _,.own h' _ _ _ => h ≠ h'
 | .own h _ _ _,.ptr h' _ _ _ => h ≠ h'
 | .own h _ _ _,.own h' _ _ _ => h ≠ h'
 | .agg [.ptr h _ _ _],.ptr h' _ _ _ => h ≠ h'
 | .agg [.ptr h _ _ _],.own h' _ _ _ => h ≠ h'
 | .ptr h _ _ _,.agg [.ptr h' _ _ _] => h ≠ h'
 | .own h _ _ _,.agg [.ptr h' _ _ _] => h ≠ h'
 | .agg [.ptr h _ _ _],.agg [.ptr h' _ _ _] => h ≠ h'
 | .mp h,.mp h' => h ≠ h'
 | .mp h,.ptr h' _ _ _ => h ≠ h'
 | .mp h,.own h' _ _ _ => h ≠ h'
 | .mp h,.agg [.ptr h' _ _ _] => h ≠ h'
 | .ptr h _ _ _,.mp h' => h ≠ h'
 | .own h _ _ _,.mp h' => h ≠ h'
 | .agg [.ptr h _ _ _],.mp h' => h ≠ h'
 | _,_ => True
def zjq : List (Nat × Nat) -> List (Nat × DV) -> Prop
 | [],_ => True
 | (a,b) :: r,fr => sepB (get a fr) (get b fr) /\ zjq r fr
open Classical in
noncomputable def zb (C : Orc) (op : DOp) (s : DS) : Res :=
 match op with
 | .im d => ⟨d.kind = 1 /\ (dval C d ⟨s.fr,[]⟩).pre,(dval C d ⟨s.fr,[]⟩).val,s.hp⟩
 | .rk lo d => ⟨(dval C d s).pre /\ zkp lo s.fr d /\ (dval C d s).hp = s.hp,(dval C d s).val,s.hp⟩
 | .tk b lo d => ⟨(dval C d s).pre /\ OnlyK (hdl (get b s.fr)) lo s.hp (dval C d s).hp,(dval C d s).val,(dval C d s).hp⟩
 | .rd d => ⟨(dval C d s).pre /\ (dval C d s).hp = s.hp,(dval C d s).val,s.hp⟩
 | .to b d => ⟨(dval C d s).pre /\ Only (hdl (get b s.fr)) s.hp (dval C d s).hp,(dval C d s).val,(dval C d s).hp⟩
 | d => dval C d s
def DS.put (s : DS) (dst : Option Nat) (r : Res) : DS :=
 match dst with
 | some d => ⟨(d,r.val) :: s.fr,r.hp⟩
 | none => ⟨s.fr,r.hp⟩
def zit (C : Orc) (o : DOper) (s : DS) (K : DS -> Prop) : Prop :=
 match o.guard with
 | none => (zb C o.op s).pre /\ K (s.put o.dst (zb C o.op s))
 | some (g,b) =>
   match get g s.fr with
   | .bool b' => if b' = b then (zb C o.op s).pre /\ K (s.put o.dst (zb C o.op s)) else K (s.put o.dst ⟨True,.tup [],s.hp⟩)
   | .tup [] => K (s.put o.dst ⟨True,.tup [],s.hp⟩)
   | _ => False
def dops (C : Orc) : List DOper -> DS -> (DS -> Prop) -> Prop
 | [],s,K => K s
 | o :: r,s,K => zit C o s (fun s' => dops C r s' K)
inductive DCode where
 | skip
 | ops (draw : Bool) (l : List DOper)
 | opsS (seps : List (Nat × Nat)) (l : List (Nat × DOper))   -- the same,where slots hold zgp handles
 | opsP (l : List (Nat × DOper))                     -- a region that draws,in an order of the reading's own
 | seq (a b : DCode)
 | cond (c : DA) (a b : DCode)
 | block (id : Nat) (c : DCode)
 | loop (live : List Nat) (m : Option Nat) (c : DCode)
 | gown (t off z : Nat) (c : DCode)                     -- the reading's own: a nil slice in a field is to grow
 | scope (c : DCode)
 | rangeF (live : List Nat) (m : Option Nat) (g : DA) (ps : List Nat) (asg c : DCode)   -- a range over a function
 | rsv (c : DCode)                                        -- the reading's own: a place is kept for an object
 | bad
 | cut (live : List Nat) (m : Option Nat) (c : DCode)     -- the reading's own: what is not named is forgotten here
 | exit (id : Nat)
 | ret
inductive DExit where
 | normal
 | exit (id : Nat)
 | ret
mutual
def DV.inB (m : Nat) : DV -> Bool
 | .own h _ _ _ => h < m
 | .ptr h _ _ _ => h < m
 | .mp h => h < m
 | .agg cs => DV.inBL m cs
 | .tup cs => DV.inBL m cs
 | .clo _ cs => DV.inBL m cs
 | .meth _ cs => DV.inBL m cs
 | _ => true
def DV.inBL (m : Nat) : List DV -> Bool
 | [] => true
 | d :: r => d.inB m && DV.inBL m r
end
def DV.cut (m : Nat) (d : DV) : DV := if d.inB m then d else .undef
def DObj.cut (m : Nat) (o : DObj) : DObj :=
 if o.k = .loc then { o with es := o.es.map fun r => r.map (DV.cut m) } else o
def DS.cut (s : DS) (live : List Nat) : Option Nat -> DS
 | some m => ⟨live.map fun t => (t,(get t s.fr).cut m),(s.hp.take m).map (DObj.cut m)⟩
 | none => ⟨live.map fun t => (t,get t s.fr),s.hp⟩
def DExit.then (next : DS -> Prop) (Q : DExit -> DS -> Prop) : DExit -> DS -> Prop
 | .normal,s => next s
 | e,s => Q e s
def DExit.inBlock (id : Nat) (Q : DExit -> DS -> Prop) : DExit -> DS -> Prop
 | .exit id',s => if id' = id then Q .normal s else Q (.exit id') s
 | e,s => Q e s
def DExit.only (next : DS -> Prop) : DExit -> DS -> Prop
 | .normal,s => next s
 | _,_ => False
def zbm (hp : List DObj) : List DV -> Prop × List DV × List DObj
 | [] => (True,[],hp)
 | .ptr h L i j :: r =>
   match hp[h]? with
   | some o => (o.k = .loc /\ o.es.length = 1 /\ L = 1 /\ i = 0 /\ j = 0 /\ (∀ d ∈ o.es.getD 0 [],d.immB = true) /\ r.all DV.immB = true,.agg (o.es.getD 0 []) :: r,hp.set h { o with k := .dead })
   | none => (False,[],hp)
 | d :: r => (d.immB = true /\ (zbm hp r).1,d :: (zbm hp r).2.1,(zbm hp r).2.2)
theorem zzc (hp : List DObj) : ∀ (caps : List DV),caps.all DV.immB = true -> zbm hp caps = (True,caps,hp)
 | [],_ => rfl
 | d :: r,h => by
   simp only [List.all_cons,Bool.and_eq_true] at h
   have ih := zzc hp r h.2
   cases d <;> first | (simp [DV.immB] at h; done) | simp [zbm,ih,DV.immB]
def zd3 : List DV -> List DV × List DObj
 | [] => ([],[])
 | .agg row :: r => (.ptr 0 1 0 0 :: r,[⟨.loc,row.length,[row]⟩])
 | d :: r => (d :: (zd3 r).1,(zd3 r).2)
theorem zvr : ∀ (caps : List DV),caps.all DV.immB = true -> zd3 caps = (caps,[])
 | [],_ => rfl
 | d :: r,h => by
   simp only [List.all_cons,Bool.and_eq_true] at h
   have ih := zvr r h.2
   cases d <;> first | (simp [DV.immB] at h; done) | simp [zd3,ih]
theorem z4s : ∀ (caps : List DV),(zd3 caps).1.length = caps.length
 | [] => rfl
 | d :: r => by cases d <;> simp [zd3,z4s r]
def dwp (C : Orc) (h0 : Nat) : DCode -> (DExit -> DS -> Prop) -> DS -> Prop
 | .skip,Q,s => Q .normal s
 | .ops _ l,Q,s => dops C l s (Q .normal)
 | .opsS seps l,Q,s => zjq seps s.fr /\ dops C (l.map (·.2)) s (Q .normal)
 | .opsP l,Q,s => dops C (l.map (·.2)) s (Q .normal)
 | .seq a b,Q,s => dwp C h0 a (DExit.then (dwp C h0 b Q) Q) s
 | .cond c a b,Q,s =>
   match c.ev s.fr with
   | .bool t => (t = true -> dwp C h0 a Q s) /\ (t = false -> dwp C h0 b Q s)
   | .anyb => dwp C h0 a Q s /\ dwp C h0 b Q s
   | _ => False
 | .block id c,Q,s => dwp C h0 c (DExit.inBlock id Q) s
 | .loop live m c,Q,s => (match m with | some k => h0 <= k | none => True) /\ ∃ (I : DS -> Prop) (μ : DS -> Nat),I (s.cut live m) /\
     ∀ s',I s' -> dwp C h0 c (DExit.then (fun s'' => I (s''.cut live m) /\ μ (s''.cut live m) < μ s') Q) s'
 | .gown t off z c,Q,s => match get t s.fr with
   | .ptr h L i j => match s.hp[h]? with
     | some o => ((o.k = .loc /\ o.es.length = L /\ i < L /\ (o.es.getD i [])[j + off]? = some .nil) /\
         dwp C h0 c Q ⟨s.fr,s.hp.set h { o with es := o.es.set i ((o.es.getD i []).set (j + off) (.own s.hp.length 0 0 0)) } ++ [⟨.imm,z,[]⟩]⟩) \/ dwp C h0 c Q s
     | none => False
   | _ => False
 | .scope c,Q,s => dwp C h0 c Q s
 | .rangeF live m g ps asg c,Q,s => (match m with | some k => h0 <= k | none => True) /\
     match g.ev s.fr with
     | .clo f caps => (C.i f (zbm (s.cut live m).hp caps).2.1).1 /\ (zbm (s.cut live m).hp caps).1 /\ ∃ I : Nat -> List DObj -> Prop,I 0 (zbm (s.cut live m).hp caps).2.2 /\
         (∀ k x hp,I k hp -> (C.i f (zbm (s.cut live m).hp caps).2.1).2[k]? = some x -> x.length = ps.length /\
           dwp C hp.length asg (DExit.only fun s1 => dwp C s1.hp.length c (DExit.then (fun s' => I (k + 1) (s'.cut [] m).hp) (fun e s' => Q e ⟨(s.cut live m).fr,s'.hp⟩)) s1) ⟨ps.zip x ++ (s.cut live m).fr,hp⟩) /\
         ∀ hp,I (C.i f (zbm (s.cut live m).hp caps).2.1).2.length hp -> Q .normal ⟨(s.cut live m).fr,hp⟩
     | _ => False
 | .rsv c,Q,s => dwp C h0 c Q ⟨s.fr,s.hp ++ [⟨.dead,0,[]⟩]⟩
 | .bad,_,_ => False
 | .cut live m c,Q,s => (match m with | some k => h0 <= k | none => True) /\ dwp C h0 c Q (s.cut live m)
 | .exit id,Q,s => Q (.exit id) s
 | .ret,Q,s => Q .ret s
end
end Go.Nk
set_option linter.all false
namespace Go.Nk
open Go.RowKit
structure Env where
 X : (Nat -> Prop) -> World -> Prop
 mono : ∀ (F F' : Nat -> Prop) (w w' : World),X F w -> (∀ b,F b -> w'.heap[b]? = w.heap[b]?) -> (∀ b,F b -> F' b) -> X F' w'
def Env.none : Env := ⟨fun _ _ => True,fun _ _ _ _ _ _ _ => trivial⟩
def Env.tab (P : Program) (name : String) (k : IntKind) (zs : List Int) : Env where
 X F w := ∃ g c,P.globalNamed name = some g /\ F g /\ w.heap[g]? = some c /\ match c with | .cells cs _ _ => cs = (zs.map fun z => Value.int k z).toArray | _ => False
 mono := fun _ _ _ _ ⟨g,c,h1,h2,h3,h4⟩ hk hm => ⟨g,c,h1,hm g h2,(hk g h2).trans h3,h4⟩
def XF [Inhabited Env] (F : Nat -> Prop) (w : World) : Prop := (default : Env).X F w
theorem XF.mono [Inhabited Env] {F F' : Nat -> Prop} {w w' : World} (h : XF F w) (h1 : ∀ b,F b -> w'.heap[b]? = w.heap[b]?) (h2 : ∀ b,F b -> F' b) : XF F' w' := (default : Env).mono _ _ _ _ h h1 h2
def bsz (w : World) (g : Nat) : Nat := match w.heap[g]? with | some (.cells c _ _) => c.size | _ => 0
inductive IRep (F : Nat -> Prop) (w : World) : DV -> Value -> Prop
 | int (k n) : IRep F w (.int k n) (.int k n)
 | bool (b) : IRep F w (.bool b) (.bool b)
 | str (s) : IRep F w (.str s) (.string ⟨s.toArray⟩)
 | nil : IRep F w .nil (.slice none 0 0)
 | nilp : IRep F w .nilp (.pointer none)
 | sl (es : List (List DV)) (A : Option Addr) (n c : Nat) (a : Addr) (z : Nat) (cv : Nat -> Nat -> Value)
     (hn : n = es.length) (hnc : n <= c) (hA : es ≠ [] -> A = some a /\ a.spot = none /\ F a.block) (hz : ∀ (i : Nat) (e : List DV),es[i]? = some e -> e.length = z)
     (hc : ∀ i j d,z1 es i j = some d -> w.cell? ⟨a.block,a.off + (i * z + j),none⟩ = some (cv i j) /\ d.one = true)
     (hr : ∀ i j d,z1 es i j = some d -> IRep F w d (cv i j)) : IRep F w (.sl es) (.slice A n c)
 | ref (cs : List DV) (a : Addr) (cv : Nat -> Value) (hs : a.spot = none) (hF : F a.block)
     (hc : ∀ j d,cs[j]? = some d -> w.cell? ⟨a.block,a.off + j,none⟩ = some (cv j) /\ d.one = true)
     (hr : ∀ (j : Nat) (d : DV),cs[j]? = some d -> IRep F w d (cv j)) : IRep F w (.ref cs) (.pointer (some a))
 | clo (f) (cs : List DV) (vs : Array Value) (hl : cs.length = vs.size) (vv : Nat -> Value) (hv : ∀ (j : Nat) (d : DV),cs[j]? = some d -> vs[j]? = some (vv j)) (hr : ∀ (j : Nat) (d : DV),cs[j]? = some d -> IRep F w d (vv j)) : IRep F w (.clo f cs) (.func (.func f) #[] vs)
 | anyb (b) : IRep F w .anyb (.bool b)
 | yld (l) : IRep F w (.yld l) (.func (.yield l) #[] #[])
 | ifc (t d v) (h : IRep F w d v) : IRep F w (.ifc t d) (.iface t v)
def OwnV (σ : Nat -> Option Nat) (w : World) (z h off len : Nat) (v : Value) : Prop :=
 ∃ A cap,v = .slice A len cap /\ len <= cap /\ (cap = 0 \/ ∃ g,σ h = some g /\ A = some ⟨g,off * z,none⟩ /\ (off + cap) * z <= bsz w g)
inductive VRep (F : Nat -> Prop) (σ : Nat -> Option Nat) (hp : List DObj) (w : World) : DV -> Value -> Prop
 | undef (v) : VRep F σ hp w .undef v
 | imm {d v} (h : IRep F w d v) : VRep F σ hp w d v
 | own (h L off len v) (h1 : v.oneCell' = true) (hh : h < hp.length)
     (ho : ∀ o,hp[h]? = some o -> L <= o.es.length /\ (o.k ≠ .dead -> o.es.length = L -> OwnV σ w o.z h off len v)) : VRep F σ hp w (.own h L off len) v
 | ptr (h L i j v) (h1 : v.oneCell' = true) (hh : h < hp.length)
     (ho : ∀ o,hp[h]? = some o -> L <= o.es.length /\ (o.k ≠ .dead -> o.es.length = L -> ∃ g,σ h = some g /\ v = .pointer (some ⟨g,i * o.z + j,none⟩))) : VRep F σ hp w (.ptr h L i j) v
 | mp (h v) (h1 : v.oneCell' = true) (hh : h < hp.length)
     (ho : ∀ o,hp[h]? = some o -> o.k ≠ .dead -> o.es.length = 0 -> ∃ g,σ h = some g /\ v = .map (some g)) : VRep F σ hp w (.mp h) v
 | agg (cs : List DV) (vs : Array Value) (hl : cs.length = vs.size) (vv : Nat -> Value) (hv : ∀ (j : Nat) (d : DV),cs[j]? = some d -> vs[j]? = some (vv j)) (hr : ∀ (j : Nat) (d : DV),cs[j]? = some d -> VRep F σ hp w d (vv j)) : VRep F σ hp w (.agg cs) (.agg vs)
 | tup (cs : List DV) (vs : Array Value) (hl : cs.length = vs.size) (vv : Nat -> Value) (hv : ∀ (j : Nat) (d : DV),cs[j]? = some d -> vs[j]? = some (vv j)) (hr : ∀ (j : Nat) (d : DV),cs[j]? = some d -> VRep F σ hp w d (vv j)) : VRep F σ hp w (.tup cs) (.tuple vs)
 | clo (f) (cs : List DV) (vs : Array Value) (hl : cs.length = vs.size) (vv : Nat -> Value) (hv : ∀ (j : Nat) (d : DV),cs[j]? = some d -> vs[j]? = some (vv j)) (hr : ∀ (j : Nat) (d : DV),cs[j]? = some d -> VRep F σ hp w d (vv j)) : VRep F σ hp w (.clo f cs) (.func (.func f) #[] vs)
 | meth (f) (cs : List DV) (vs : Array Value) (hl : cs.length = vs.size) (vv : Nat -> Value) (hv : ∀ (j : Nat) (d : DV),cs[j]? = some d -> vs[j]? = some (vv j)) (hr : ∀ (j : Nat) (d : DV),cs[j]? = some d -> VRep F σ hp w d (vv j)) : VRep F σ hp w (.meth f cs) (.func (.func f) vs #[])
def Blk (w : World) (g z : Nat) (es : List (List DV)) (R : DV -> Value -> Prop) : Prop :=
 ∃ c ty,w.heap[g]? = some (.cells c ty (0,0)) /\ es.length * z <= c.size /\ (∀ (i : Nat) (e : List DV),es[i]? = some e -> e.length = z) /\
   ∀ i j d,z1 es i j = some d -> ∃ v,c[i * z + j]? = some v /\ R d v
def MBlk (w : World) (g : Nat) (es : List (List UInt8 × DV)) (R : DV -> Value -> Prop) : Prop :=
 ∃ (c : Array MapEntry) (n : Nat),w.heap[g]? = some (.map c n) /\ c.size = es.length /\
   ∀ (i : Nat) (x : List UInt8 × DV),es[i]? = some x -> ∃ e,c[i]? = some e /\ e.key = .string ⟨x.1.toArray⟩ /\ R x.2 e.val
def ORep (K F : Nat -> Prop) (σ : Nat -> Option Nat) (hp : List DObj) (w : World) (h : Nat) (o : DObj) : Prop :=
 match o.k with
 | .dead => True
 | .imm => (o.es = [] /\ σ h = none) \/ ∃ g,σ h = some g /\ ¬ F g /\ ¬ K g /\ Blk w g o.z o.es (fun d v => IRep F w d v /\ d.one = true)
 | .frz => (o.es = [] /\ σ h = none) \/ ∃ g,σ h = some g /\ F g /\ Blk w g o.z o.es (fun d v => IRep F w d v /\ d.one = true)
 | .loc => ∃ g,σ h = some g /\ ¬ F g /\ ¬ K g /\ Blk w g o.z o.es (fun d v => VRep F σ hp w d v)
 | .mp es => (o.es = [] /\ o.z = 0) /\ ∃ g,σ h = some g /\ ¬ F g /\ ¬ K g /\ MBlk w g es (fun d v => IRep F w d v /\ ∃ l,d = .sl l)
def Kd.mut (k : Kd) : Prop := k = .imm \/ k = .loc \/ ∃ es,k = .mp es
structure SimH [Inhabited Env] (K F : Nat -> Prop) (σ : Nat -> Option Nat) (hp : List DObj) (w : World) : Prop where
 obj : ∀ h o,hp[h]? = some o -> ORep K F σ hp w h o
 inj : ∀ h h' o o' g,hp[h]? = some o -> o.k.mut -> hp[h']? = some o' -> o'.k.mut -> σ h = some g -> σ h' = some g -> h = h'
 fb : ∀ b,F b -> b < w.heap.size
 kb : ∀ b,K b -> b < w.heap.size
 tab : XF F w
structure Moves (K F : Nat -> Prop) (w : World) (F' : Nat -> Prop) (w' : World) : Prop where
 os : w'.os = w.os
 tape : w'.tape = w.tape
 output : w'.output = w.output
 size : w.heap.size <= w'.heap.size
 keepK : ∀ b,K b -> w'.heap[b]? = w.heap[b]?
 keepF : ∀ b,F b -> w'.heap[b]? = w.heap[b]?
 mono : ∀ b,F b -> F' b
 new : ∀ b,F' b -> F b \/ ¬ K b
theorem Moves.refl (K F : Nat -> Prop) (w : World) : Moves K F w F w :=
 ⟨rfl,rfl,rfl,Nat.le_refl _,fun _ _ => rfl,fun _ _ => rfl,fun _ h => h,fun _ h => .inl h⟩
theorem Moves.trans {K F F' F'' : Nat -> Prop} {w w' w'' : World} (h : Moves K F w F' w') (k : Moves K F' w' F'' w'') : Moves K F w F'' w'' :=
 ⟨k.os.trans h.os,k.tape.trans h.tape,k.output.trans h.output,Nat.le_trans h.size k.size,fun b hb => (k.keepK b hb).trans (h.keepK b hb),
   fun b hb => (k.keepF b (h.mono b hb)).trans (h.keepF b hb),fun b hb => k.mono b (h.mono b hb),fun b hb => (k.new b hb).elim (h.new b) .inr⟩
structure HM (F : Nat -> Prop) (σ : Nat -> Option Nat) (hp : List DObj) (w : World) (F' : Nat -> Prop) (σ' : Nat -> Option Nat) (hp' : List DObj) (w' : World) : Prop where
 mono : ∀ b,F b -> F' b
 keepF : ∀ b,F b -> w'.heap[b]? = w.heap[b]?
 len : hp.length <= hp'.length
 ob : ∀ h o,hp[h]? = some o -> ∃ o',hp'[h]? = some o' /\ o.es.length <= o'.es.length /\
   (o'.k ≠ .dead -> o'.es.length = o.es.length -> o.k ≠ .dead /\ o'.z = o.z /\ σ' h = σ h /\ ∀ g,σ h = some g -> bsz w' g = bsz w g)
theorem HM.refl (F : Nat -> Prop) (σ : Nat -> Option Nat) (hp : List DObj) (w : World) : HM F σ hp w F σ hp w :=
 ⟨fun _ h => h,fun _ _ => rfl,Nat.le_refl _,fun _ o ho => ⟨o,ho,Nat.le_refl _,fun h _ => ⟨h,rfl,rfl,fun _ _ => rfl⟩⟩⟩
theorem HM.trans {F F' F'' : Nat -> Prop} {σ σ' σ'' : Nat -> Option Nat} {hp hp' hp'' : List DObj} {w w' w'' : World}
   (h : HM F σ hp w F' σ' hp' w') (k : HM F' σ' hp' w' F'' σ'' hp'' w'') : HM F σ hp w F'' σ'' hp'' w'' := by
 refine ⟨fun b hb => k.mono b (h.mono b hb),fun b hb => (k.keepF b (h.mono b hb)).trans (h.keepF b hb),Nat.le_trans h.len k.len,fun i o ho => ?_⟩
 obtain ⟨o',ho',hl,hk⟩ := h.ob i o ho
 obtain ⟨o'',ho'',hl',hk'⟩ := k.ob i o' ho'
 refine ⟨o'',ho'',Nat.le_trans hl hl',fun hd he => ?_⟩
 obtain ⟨a1,a2,a3,a4⟩ := hk' hd (by omega)
 obtain ⟨b1,b2,b3,b4⟩ := hk a1 (by omega)
 exact ⟨b1,a2.trans b2,a3.trans b3,fun g hg => (a4 g (b3.trans hg)).trans (b4 g hg)⟩
theorem zru {w w' : World} {a : Addr} (h : w'.heap[a.block]? = w.heap[a.block]?) : w'.cell? a = w.cell? a := World.cell?_of_block h
theorem IRep.mono {F F' : Nat -> Prop} {w w' : World} (hF : ∀ b,F b -> F' b) (hw : ∀ b,F b -> w'.heap[b]? = w.heap[b]?) {d : DV} {v : Value} (h : IRep F w d v) : IRep F' w' d v := by
 induction h with
 | int k n => exact .int k n
 | bool b => exact .bool b
 | str s => exact .str s
 | nil => exact .nil
 | nilp => exact .nilp
 | clo f cs vs hl vv hv hr ih => exact .clo f cs vs hl vv hv ih
 | anyb b => exact .anyb b
 | yld l => exact .yld l
 | ifc t d v h ih => exact .ifc t d v ih
 | sl es A n c a z cv hn hnc hA hz hc hr ih =>
   refine .sl es A n c a z cv hn hnc (fun h => ⟨(hA h).1,(hA h).2.1,hF _ (hA h).2.2⟩) hz (fun i j d hd => ?_) ih
   refine ⟨?_,(hc i j d hd).2⟩
   rw [zru (w := w) (hw _ ?_)]
   . exact (hc i j d hd).1
   . refine (hA ?_).2.2
     intro he
     subst he
     simp [z1] at hd
 | ref cs a cv hs hFa hc hr ih =>
   exact .ref cs a cv hs (hF _ hFa) (fun j d hd => ⟨(zru (w := w) (a := ⟨a.block,a.off + j,none⟩) (hw _ hFa)).trans (hc j d hd).1,(hc j d hd).2⟩) ih
theorem VRep.mono {F F' : Nat -> Prop} {σ σ' : Nat -> Option Nat} {hp hp' : List DObj} {w w' : World} (hm : HM F σ hp w F' σ' hp' w') {d : DV} {v : Value}
   (h : VRep F σ hp w d v) : VRep F' σ' hp' w' d v := by
 induction h with
 | undef v => exact .undef v
 | imm h => exact .imm (h.mono hm.mono hm.keepF)
 | own h L off len v hv1 hh ho =>
   refine .own h L off len v hv1 (Nat.lt_of_lt_of_le hh hm.len) (fun o' ho' => ?_)
   obtain ⟨o,hoo⟩ : ∃ o,hp[h]? = some o := ⟨hp[h],by simp [hh]⟩
   obtain ⟨o'',h1,hl,hk⟩ := hm.ob h o hoo
   rw [ho'] at h1
   injection h1 with h1
   subst h1
   obtain ⟨hL,hv⟩ := ho o hoo
   refine ⟨by omega,fun hd he => ?_⟩
   obtain ⟨a1,a2,a3,a4⟩ := hk hd (by omega)
   obtain ⟨A,cap,e1,e2,e3⟩ := hv a1 (by omega)
   refine ⟨A,cap,e1,e2,e3.imp id fun ⟨g,g1,g2,g3⟩ => ⟨g,a3.trans g1,by rw [a2]; exact g2,by rw [a2,a4 g g1]; exact g3⟩⟩
 | ptr h L i j v hv1 hh ho =>
   refine .ptr h L i j v hv1 (Nat.lt_of_lt_of_le hh hm.len) (fun o' ho' => ?_)
   obtain ⟨o,hoo⟩ : ∃ o,hp[h]? = some o := ⟨hp[h],by simp [hh]⟩
   obtain ⟨o'',h1,hl,hk⟩ := hm.ob h o hoo
   rw [ho'] at h1
   injection h1 with h1
   subst h1
   obtain ⟨hL,hv⟩ := ho o hoo
   refine ⟨by omega,fun hd he => ?_⟩
   obtain ⟨a1,a2,a3,a4⟩ := hk hd (by omega)
   obtain ⟨g,e1,e2⟩ := hv a1 (by omega)
   exact ⟨g,a3.trans e1,by rw [a2]; exact e2⟩
 | mp h v hv1 hh ho =>
   refine .mp h v hv1 (Nat.lt_of_lt_of_le hh hm.len) (fun o' ho' hd he => ?_)
   obtain ⟨o,hoo⟩ : ∃ o,hp[h]? = some o := ⟨hp[h],by simp [hh]⟩
   obtain ⟨o'',h1,hl,hk⟩ := hm.ob h o hoo
   rw [ho'] at h1
   injection h1 with h1
   subst h1
   obtain ⟨a1,a2,a3,a4⟩ := hk hd (by omega)
   obtain ⟨g,e1,e2⟩ := ho o hoo a1 (by omega)
   exact ⟨g,a3.trans e1,e2⟩
 | agg cs vs hl vv hv hr ih => exact .agg cs vs hl vv hv ih
 | tup cs vs hl vv hv hr ih => exact .tup cs vs hl vv hv ih
 | clo f cs vs hl vv hv hr ih => exact .clo f cs vs hl vv hv ih
 | meth f cs vs hl vv hv hr ih => exact .meth f cs vs hl vv hv ih
section
variable {F : Nat -> Prop} {σ : Nat -> Option Nat} {hp : List DObj} {w : World} {v : Value}
theorem VRep.int_inv {k : IntKind} {n : Int} (h : VRep F σ hp w (.int k n) v) : v = .int k n := by cases h with | imm h => cases h; rfl
theorem VRep.bool_inv {b : Bool} (h : VRep F σ hp w (.bool b) v) : v = .bool b := by cases h with | imm h => cases h; rfl
theorem VRep.anyb_inv (h : VRep F σ hp w .anyb v) : ∃ b,v = .bool b := by cases h with | imm h => cases h; exact ⟨_,rfl⟩
theorem VRep.yld_inv {l : Nat} (h : VRep F σ hp w (.yld l) v) : v = .func (.yield l) #[] #[] := by cases h with | imm h => cases h; rfl
theorem VRep.str_inv {s : List UInt8} (h : VRep F σ hp w (.str s) v) : v = .string ⟨s.toArray⟩ := by cases h with | imm h => cases h; rfl
theorem VRep.nil_inv (h : VRep F σ hp w .nil v) : v = .slice none 0 0 := by cases h with | imm h => cases h; rfl
theorem VRep.nilp_inv (h : VRep F σ hp w .nilp v) : v = .pointer none := by cases h with | imm h => cases h; rfl
theorem VRep.sl_inv {es : List (List DV)} (h : VRep F σ hp w (.sl es) v) : IRep F w (.sl es) v := by cases h with | imm h => exact h
theorem VRep.ref_inv {cs : List DV} (h : VRep F σ hp w (.ref cs) v) : IRep F w (.ref cs) v := by cases h with | imm h => exact h
theorem VRep.own_inv {h' L off len : Nat} (h : VRep F σ hp w (.own h' L off len) v) :
   h' < hp.length /\ ∀ o,hp[h']? = some o -> L <= o.es.length /\ (o.k ≠ .dead -> o.es.length = L -> OwnV σ w o.z h' off len v) := by
 cases h with
 | imm h => cases h
 | own _ _ _ _ _ _ hh ho => exact ⟨hh,ho⟩
theorem VRep.ptr_inv {h' L i j : Nat} (h : VRep F σ hp w (.ptr h' L i j) v) :
   h' < hp.length /\ ∀ o,hp[h']? = some o -> L <= o.es.length /\ (o.k ≠ .dead -> o.es.length = L -> ∃ g,σ h' = some g /\ v = .pointer (some ⟨g,i * o.z + j,none⟩)) := by
 cases h with
 | imm h => cases h
 | ptr _ _ _ _ _ _ hh ho => exact ⟨hh,ho⟩
theorem VRep.agg_inv {cs : List DV} (h : VRep F σ hp w (.agg cs) v) : ∃ vs : Array Value,v = .agg vs /\ cs.length = vs.size /\ ∀ (j : Nat) (d : DV),cs[j]? = some d -> ∃ u,vs[j]? = some u /\ VRep F σ hp w d u := by
 cases h with
 | imm h => cases h
 | agg _ vs hl vv hv hr => exact ⟨vs,rfl,hl,fun j d hd => ⟨vv j,hv j d hd,hr j d hd⟩⟩
theorem VRep.tup_inv {cs : List DV} (h : VRep F σ hp w (.tup cs) v) : ∃ vs : Array Value,v = .tuple vs /\ cs.length = vs.size /\ ∀ (j : Nat) (d : DV),cs[j]? = some d -> ∃ u,vs[j]? = some u /\ VRep F σ hp w d u := by
 cases h with
 | imm h => cases h
 | tup _ vs hl vv hv hr => exact ⟨vs,rfl,hl,fun j d hd => ⟨vv j,hv j d hd,hr j d hd⟩⟩
theorem VRep.clo_inv {f : FuncId} {cs : List DV} (h : VRep F σ hp w (.clo f cs) v) : ∃ vs : Array Value,v = .func (.func f) #[] vs /\ cs.length = vs.size /\ ∀ (j : Nat) (d : DV),cs[j]? = some d -> ∃ u,vs[j]? = some u /\ VRep F σ hp w d u := by
 cases h with
 | imm h =>
   cases h with
   | clo _ _ vs hl vv hv hr => exact ⟨vs,rfl,hl,fun j d hd => ⟨vv j,hv j d hd,.imm (hr j d hd)⟩⟩
 | clo _ _ vs hl vv hv hr => exact ⟨vs,rfl,hl,fun j d hd => ⟨vv j,hv j d hd,hr j d hd⟩⟩
theorem VRep.meth_inv {f : FuncId} {cs : List DV} (h : VRep F σ hp w (.meth f cs) v) : ∃ vs : Array Value,v = .func (.func f) vs #[] /\ cs.length = vs.size /\ ∀ (j : Nat) (d : DV),cs[j]? = some d -> ∃ u,vs[j]? = some u /\ VRep F σ hp w d u := by
 cases h with
 | imm h => cases h
 | meth _ _ vs hl vv hv hr => exact ⟨vs,rfl,hl,fun j d hd => ⟨vv j,hv j d hd,hr j d hd⟩⟩
theorem ydg {R : DV -> Value -> Prop} {cs : List DV} {vs : Array Value} (h : ∀ (j : Nat) (d : DV),cs[j]? = some d -> ∃ u,vs[j]? = some u /\ R d u) :
   ∃ vv : Nat -> Value,(∀ (j : Nat) (d : DV),cs[j]? = some d -> vs[j]? = some (vv j)) /\ ∀ (j : Nat) (d : DV),cs[j]? = some d -> R d (vv j) := by
 refine ⟨fun j => (vs[j]?).getD (.tuple #[]),fun j d hd => ?_,fun j d hd => ?_⟩
 . obtain ⟨u,hu,_⟩ := h j d hd
   simp [hu]
 . obtain ⟨u,hu,hr⟩ := h j d hd
   simpa [hu] using hr
theorem VRep.agg_mk {cs : List DV} {vs : Array Value} (hl : cs.length = vs.size) (h : ∀ (j : Nat) (d : DV),cs[j]? = some d -> ∃ u,vs[j]? = some u /\ VRep F σ hp w d u) : VRep F σ hp w (.agg cs) (.agg vs) := by
 obtain ⟨vv,h1,h2⟩ := ydg h
 exact .agg cs vs hl vv h1 h2
theorem VRep.tup_mk {cs : List DV} {vs : Array Value} (hl : cs.length = vs.size) (h : ∀ (j : Nat) (d : DV),cs[j]? = some d -> ∃ u,vs[j]? = some u /\ VRep F σ hp w d u) : VRep F σ hp w (.tup cs) (.tuple vs) := by
 obtain ⟨vv,h1,h2⟩ := ydg h
 exact .tup cs vs hl vv h1 h2
theorem VRep.clo_mk {f : FuncId} {cs : List DV} {vs : Array Value} (hl : cs.length = vs.size) (h : ∀ (j : Nat) (d : DV),cs[j]? = some d -> ∃ u,vs[j]? = some u /\ VRep F σ hp w d u) : VRep F σ hp w (.clo f cs) (.func (.func f) #[] vs) := by
 obtain ⟨vv,h1,h2⟩ := ydg h
 exact .clo f cs vs hl vv h1 h2
theorem IRep.clo0 (f : FuncId) : IRep F w (.clo f []) (.func (.func f) #[] #[]) := .clo f [] #[] rfl (fun _ => .nilFunc) (fun j d hd => by simp at hd) (fun j d hd => by simp at hd)
theorem IRep.oneCell {d : DV} (h : IRep F w d v) : v.oneCell' = true := by cases h <;> rfl
theorem VRep.oneCell {d : DV} (h : VRep F σ hp w d v) (hd : d.one = true) : v.oneCell' = true := by
 cases h with
 | undef => simp [DV.one] at hd
 | imm h => exact h.oneCell
 | own h' L off len _ h1 => exact h1
 | ptr h' L i j _ h1 => exact h1
 | mp h' _ h1 => exact h1
 | agg => simp [DV.one] at hd
 | tup => simp [DV.one] at hd
 | clo => rfl
 | meth => rfl
end
end Go.Nk
set_option linter.all false
namespace Go.Nk
open Go.RowKit
def z0n : Value -> DV -> Bool
 | .int k n,.int k' n' => decide (k = k') && decide (n = n')
 | .bool a,.bool b => a == b
 | .string s,.str l => s.data.toList == l
 | .slice none 0 0,.nil => true
 | .slice none 0 0,.sl [] => true
 | .pointer none,.nilp => true
 | _,_ => false
def zdi : List Value -> List DV -> Bool
 | [],[] => true
 | v :: vs,d :: ds => z0n v d && zdi vs ds
 | _,_ => false
def yfr : Value -> DV -> Bool
 | .agg vs,.agg ds => zdi vs.toList ds
 | .tuple vs,.tup ds => zdi vs.toList ds
 | _,.undef => true
 | v,d => z0n v d
def mArg : Operand -> DA -> Bool
 | .tmp t,.t n => t == n
 | .const v,.c d => yfr v d
 | .func f,.c (.clo g []) => f == g
 | _,.c .undef => true
 | _,_ => false
def zd2 : List Operand -> List DA -> Bool
 | [],[] => true
 | x :: xs,d :: ds => mArg x d && zd2 xs ds
 | _,_ => false
def mOpt : Option Operand -> Option DA -> Bool
 | none,none => true
 | some x,some d => mArg x d
 | _,_ => false
def isInt (k : IntKind) : Option TypeDesc -> Bool
 | some (.int k') => decide (k = k')
 | _ => false
def yaq : Option TypeDesc -> Bool
 | some .string => true
 | _ => false
theorem z8j {k : IntKind} {d : Option TypeDesc} (h : isInt k d = true) : d = some (.int k) := by
 unfold isInt at h
 split at h
 . simp at h; subst h; rfl
 . cases h
theorem ztp {d : Option TypeDesc} (h : yaq d = true) : d = some .string := by
 unfold yaq at h
 split at h
 . rfl
 . cases h
def szOf (P : Program) (t : TypeId) : Option (Option Nat) :=
 match P.underlying t,P.info? t with
 | some (.struct _),some i => some (some i.size)
 | some (.array _ _),some i => some (some i.size)
 | some _,some _ => some none
 | _,_ => none
def zxb (P : Program) (e : TypeId) (zero : List DV) : Bool :=
 match P.info? e with
 | some i => match i.zero with
   | some z => zdi z.cells.toList zero && i.size == zero.length && decide (0 < i.size) && decide (i.bytes <= 32768) && decide (zlr zero * i.bytes <= 281474976710656)
   | none => false
 | none => false
def zyw (P : Program) (t : TypeId) (z : Nat) : Option TypeId :=
 match P.underlying t with
 | some (.slice e) => match P.info? e with
   | some i => match i.zero with
     | some zv => if i.size = z /\ 0 < z /\ i.bytes <= 32768 /\ zv.cells.size = z then some e else none
     | none => none
   | none => none
 | _ => none
def zo7 : Nat -> List (Nat × Operand) -> List (Option DA) -> Bool
 | _,[],[] => true
 | i,ps,none :: r => zo7 (i + 1) ps r
 | i,(j,x) :: ps,some y :: r => j == i && mArg x y && zo7 (i + 1) ps r
 | _,_,_ => false
def zt4 (place : Nat -> Option (Nat × Nat)) : List (Nat × Operand) -> List (Nat × Nat × DA) -> Bool
 | [],[] => true
 | (i,x) :: ps,(off,n,y) :: r => decide (place i = some (off,n)) && mArg x y && zt4 place ps r
 | _,_ => false
def zto (P : Program) (t : TypeId) (k : Nat) : Bool :=
 match P.underlying t with
 | some (.int _) => k == 0
 | some .bool => k == 1
 | some .string => k == 2
 | _ => false
def zdz (P : Program) (nest : TypeId -> List Nat -> Bool) : Nat -> List Field -> List Nat -> Bool
 | _,[],ks => ks.isEmpty
 | k,f :: r,ks =>
   f.offset == k && f.name != "_" &&
   (match szOf P f.type with
    | some none => (match ks with | n :: ns => zto P f.type n && zdz P nest (k + 1) r ns | [] => false)
    | some (some n) => decide (n <= ks.length) && nest f.type (ks.take n) && zdz P nest (k + n) r (ks.drop n)
    | none => false)
def nest1 (P : Program) (t : TypeId) (ks : List Nat) : Bool :=
 match P.underlying t with
 | some (.struct fs) => zdz P (fun _ _ => false) 0 fs.toList ks && !P.stoodInHeld t
 | _ => false
def zqi (P : Program) (t : TypeId) (ks : List Nat) : Bool :=
 match P.underlying t with
 | some (.struct fs) => zdz P (nest1 P) 0 fs.toList ks && !P.stoodInHeld t && !P.eqGuardType P.depth t
 | _ => false
def isEq (neg : Bool) (op : BinOp) : Bool := if neg then decide (op = .neq) else decide (op = .eql)
inductive At where
 | load | store | add | cas
def atName : At -> IntKind -> Option String
 | .load,.i64 => some "sync/atomic.LoadInt64"
 | .store,.i64 => some "sync/atomic.StoreInt64"
 | .add,.i64 => some "sync/atomic.AddInt64"
 | .load,.u32 => some "sync/atomic.LoadUint32"
 | .store,.u32 => some "sync/atomic.StoreUint32"
 | .add,.i32 => some "sync/atomic.AddInt32"
 | .cas,.i32 => some "sync/atomic.CompareAndSwapInt32"
 | _,_ => none
def atOk (P : Program) (f : FuncId) (x : At) (k : IntKind) : Bool :=
 match P.funcs[f]?,atName x k with
 | some fn,some n => fn.name == n && fn.origin == "" && fn.body.isNone
 | _,_ => false
def ztr (P : Program) (t : TypeId) : Bool :=
 match P.underlying t with
 | some (.interface _) => false
 | some _ => true
 | none => false
def mOp (P : Program) (o : Op) (d : DOp) : Bool :=
 match o,d with
 | .move x,.mv y | .assign x,.mv y => mArg x y
 | .move x,.mvf y | .assign x,.mvf y => mArg x y
 | .move x,.mkown _ y | .assign x,.mkown _ y => mArg x y
 | .call { callee := .builtin .cap,args := xs,argTypes := ts },.capn y => zd2 xs.toList [y] && (match ts.toList with
     | [t] => match P.underlying t with | some (.slice _) => true | _ => false
     | _ => false)
 | .pick c a b,.pick c' a' b' => mArg c c' && mArg a a' && mArg b b'
 | .binOp op _ x y _,.bin op' x' y' => decide (op = op') && mArg x x' && mArg y y'
 | .binOp op t x y _,.beq n x' y' => isEq n op && mArg x x' && mArg y y' && (match P.underlying t with | some .bool => true | _ => false)
 | .binOp op t x y _,.aeq n m x' y' => isEq n op && mArg x x' && mArg y y' && zqi P t m
 | .binOp op t x (.const (.slice none 0 0)) _,.snil n x' => isEq n op && mArg x x' && (match P.underlying t with | some (.slice _) => true | _ => false)
 | .unOp op _ x,.un op' x' => decide (op = op') && mArg x x'
 | .convert s t x,.conv k y => mArg x y && (P.underlying s).isSome && isInt k (P.underlying t)
 | .convert s t x,.b2s y => mArg x y && yaq (P.underlying t) && (match P.underlying s with
     | some (.slice e) => isInt .u8 (P.underlying e)
     | _ => false)
 | .call { callee := .builtin .len,args := xs,argTypes := ts },.len y => zd2 xs.toList [y] && (match ts.toList with
     | [t] => match P.underlying t with | some (.slice _) => true | _ => false
     | _ => false)
 | .call { callee := .builtin .len,args := xs,argTypes := ts },.lenS y => zd2 xs.toList [y] && (match ts.toList with
     | [t] => yaq (P.underlying t)
     | _ => false)
 | .call { callee := .builtin .len,args := xs,argTypes := ts },.mv (.c (.int .i64 n)) => xs.size == 1 && (match ts.toList with
     | [t] => match P.underlying t with
       | some (.array m _) => decide (n = m)
       | some (.pointer a) => match P.underlying a with | some (.array m _) => decide (n = m) | _ => false
       | _ => false
     | _ => false)
 | .call { callee := .builtin .max,args := xs,argTypes := _ },.minmax true x y => zd2 xs.toList [x,y]
 | .call { callee := .builtin .min,args := xs,argTypes := _ },.minmax false x y => zd2 xs.toList [x,y]
 | .load t p,.load sz q => mArg p q && decide (szOf P t = some sz)
 | .store t p v,.store n q u => mArg p q && mArg v u && (match P.info? t with | some i => i.size == n | none => false)
 | .fieldAddr t p f,.faddr off q => mArg p q && (match P.underlying t with
     | some (.struct fs) => match fs[f]? with
       | some fl => fl.offset == off && (match P.info? fl.type with | some i => i.size != 0 | none => false)
       | none => false
     | _ => false)
 | .field t x f,.field off sz y => mArg x y && (match P.underlying t with
     | some (.struct fs) => match fs[f]? with
       | some fl => fl.offset == off && decide (szOf P fl.type = some sz)
       | none => false
     | _ => false)
 | .indexAddr t x i,.iaddr z y k => mArg x y && mArg i k && (zyw P t z).isSome
 | .indexAddr t x i,.iaddrA n z y k => mArg x y && mArg i k && (match P.underlying t with
     | some (.array m e) => m == n && (match P.info? e with | some j => j.size == z | none => false)
     | _ => false)
 | .index t x i,.index y k => mArg x y && mArg i k && yaq (P.underlying t)
 | .slice t x lo hi mx,.sliceS y l h => mArg x y && mOpt lo l && mOpt hi h && mx.isNone && yaq (P.underlying t)
 | .slice t x lo hi mx,.slice z y l h m => mArg x y && mOpt lo l && mOpt hi h && mOpt mx m && (zyw P t z).isSome
 | .makeSlice t n c,.make zero n' c' => mArg n n' && mArg c c' && (match P.underlying t with | some (.slice e) => zxb P e zero | _ => false)
 | .buildSlice t n ps,.bslice _ zero parts => n == parts.length && zo7 0 ps.toList parts && decide (n * zero.length <= 16777216) && (match P.underlying t with | some (.slice e) => zxb P e zero | _ => false)
 | .build t ps,.build zero parts => (match P.info? t with | some i => (match i.zero with | some z => zdi z.cells.toList zero | none => false) | none => false) && (match P.underlying t with
     | some (.struct fs) => fs.toList.all (fun f => (P.info? f.type).isSome) && zt4 (fun i => (fs[i]?).bind fun f => (P.info? f.type).map fun j => (f.offset,j.size)) ps.toList parts
     | some (.array _ e) => match P.info? e with | some j => zt4 (fun i => some (i * j.size,j.size)) ps.toList parts | none => false
     | _ => false)
 | .alloc e,.alloc zero => (match P.info? e with | some i => (match i.zero with | some z => zdi z.cells.toList zero | none => false) | none => false)
 | .move x,.home _ y | .assign x,.home _ y => mArg x y
 | .call { callee := .builtin .append,args := xs,argTypes := ts },.appz z zero s x => zd2 xs.toList [s,x] && (match ts.toList with
     | [t,u] => (zyw P t z).isSome && (match P.underlying u with | some (.int _) => true | _ => false) && (match P.underlying t with | some (.slice e) => zxb P e zero | _ => false)
     | _ => false)
 | .alloc e,.aa _ zero => (match P.info? e with | some i => (match i.zero with | some z => zdi z.cells.toList zero | none => false) | none => false)
 | .box _ x,.box y => mArg x y
 | .box _ x,.bref y => mArg x y
 | .call { callee := .builtin .append,args := xs,argTypes := ts },.append z s x => zd2 xs.toList [s,x] && (match ts.toList with
     | [t,u] => (zyw P t z).isSome && (match P.underlying u with | some (.slice _) | some .string => true | _ => false)
     | _ => false)
 | .extract x i,.extract i' y => i == i' && mArg x y
 | .nilCheck x,.nilck y => mArg x y
 | .makeFunc (.func f) fst caps,.mkfun g caps' => f == g && fst.size == 0 && zd2 caps.toList caps'
 | .call { callee := .value (.func f),args := xs,argTypes := _ },.callP g ys => f == g && zd2 xs.toList ys
 | .call { callee := .value (.func f),args := xs,argTypes := _ },.callW g ys => f == g && zd2 xs.toList ys
 | .call { callee := .value (.func f),args := xs,argTypes := _ },.callH g ys => f == g && zd2 xs.toList ys
 | .call { callee := .value x,args := xs,argTypes := _ },.callvP g ys => mArg x g && zd2 xs.toList ys
 | .call { callee := .value x,args := xs,argTypes := _ },.callvH g ys => mArg x g && zd2 xs.toList ys
 | .makeInterface t x,.mkif t' y => t == t' && ztr P t && mArg x y
 | _,.bad => true
 | _,_ => false
def mOpX (P : Program) (o : Op) (d : DOp) : Bool :=
 match d with
 | .im d => decide (d.kind = 1) && mOp P o d
 | .rd d => mOp P o d
 | .rk _ d => mOp P o d
 | .tk _ _ d => mOp P o d
 | .to _ d => mOp P o d
 | d => mOp P o d
def zu5 (ops : Array Oper) : Option (Nat × Bool) -> Option (Nat × Bool) -> Bool
 | none,none => true
 | some (j,b),some (t,b') => decide ((ops[j]?).bind (·.dst) = some t) && b == b'
 | _,_ => false
def z05 (P : Program) (N : Nat) (ops : Array Oper) (o : Oper) (d : DOper) : Bool :=
 mOpX P o.op d.op && decide (o.dst = d.dst) && (match d.dst with | some t => decide (t < N) | none => true) && zu5 ops o.guard d.guard
def zlk (P : Program) (N : Nat) (ops : Array Oper) : List Oper -> List DOper -> Bool
 | [],[] => true
 | o :: r,d :: s => z05 P N ops o d && zlk P N ops r s
 | _,_ => false
end Go.Nk
set_option linter.all false
namespace Go.Nk
open Go.RowKit
section
variable {P : Program} {F : Nat -> Prop} {σ : Nat -> Option Nat} {hp : List DObj} {w : World}
theorem zvw {v : Value} {d : DV} (h : z0n v d = true) : IRep F w d v := by
 unfold z0n at h
 split at h
 . simp at h; obtain ⟨rfl,rfl⟩ := h; exact .int _ _
 . simp at h; subst h; exact .bool _
 . rename_i s l
   simp at h
   have : s = ⟨l.toArray⟩ := by rw [<- h]
   rw [this]; exact .str _
 . exact .nil
 . exact .sl [] none 0 0 ⟨0,0,none⟩ 0 (fun _ _ => .int .i64 0) rfl (Nat.le_refl _) (fun h => absurd rfl h) (fun i e h => by simp at h) (fun i j d h => by simp [z1] at h) (fun i j d h => by simp [z1] at h)
 . exact .nilp
 . cases h
theorem zgr : ∀ {vs : List Value} {ds : List DV},zdi vs ds = true ->
   ds.length = vs.length /\ ∀ (j : Nat) (d : DV),ds[j]? = some d -> ∃ u,vs[j]? = some u /\ IRep F w d u /\ d.one = true
 | [],[],_ => ⟨rfl,fun j d h => by simp at h⟩
 | v :: vs,d :: ds,h => by
   simp only [zdi,Bool.and_eq_true] at h
   obtain ⟨hl,hr⟩ := zgr h.2
   refine ⟨by simp [hl],fun j e he => ?_⟩
   cases j with
   | zero =>
     simp at he; subst he
     have hi := zvw (F := F) (w := w) h.1
     exact ⟨v,rfl,hi,by cases hi <;> rfl⟩
   | succ j => exact hr j e (by simpa using he)
 | [],_ :: _,h => by simp [zdi] at h
 | _ :: _,[],h => by simp [zdi] at h
theorem ybu {v : Value} {d : DV} (h : yfr v d = true) : VRep F σ hp w d v := by
 unfold yfr at h
 split at h
 . rename_i vs ds
   obtain ⟨hl,hr⟩ := zgr (F := F) (w := w) h
   exact VRep.agg_mk (by simpa using hl) fun j d hd => by
     obtain ⟨u,hu,hi,_⟩ := hr j d hd
     exact ⟨u,by simpa using hu,.imm hi⟩
 . rename_i vs ds
   obtain ⟨hl,hr⟩ := zgr (F := F) (w := w) h
   exact VRep.tup_mk (by simpa using hl) fun j d hd => by
     obtain ⟨u,hu,hi,_⟩ := hr j d hd
     exact ⟨u,by simpa using hu,.imm hi⟩
 . exact .undef _
 . exact .imm (zvw h)
def FRep (F : Nat -> Prop) (σ : Nat -> Option Nat) (hp : List DObj) (w : World) (fr : List (Nat × DV)) (tmps : Array Value) : Prop :=
 ∀ n,VRep F σ hp w (get n fr) (tmps.getD n undef)
theorem zz {a : Act} {fr : List (Nat × DV)} (hf : FRep F σ hp w fr a.tmps) {x : Operand} {d : DA} (h : mArg x d = true) : VRep F σ hp w (d.ev fr) (a.eval x) := by
 unfold mArg at h
 split at h
 . simp at h; subst h; exact hf _
 . exact ybu h
 . simp at h; subst h; exact .imm (.clo0 _)
 . exact .undef _
 . cases h
theorem zu1 {a : Act} {fr : List (Nat × DV)} (hf : FRep F σ hp w fr a.tmps) : ∀ {xs : List Operand} {ds : List DA},zd2 xs ds = true ->
   ds.length = xs.length /\ ∀ (j : Nat) (d : DV),(ds.map (·.ev fr))[j]? = some d -> ∃ u,(xs.map a.eval)[j]? = some u /\ VRep F σ hp w d u
 | [],[],_ => ⟨rfl,fun j d h => by simp at h⟩
 | x :: xs,d :: ds,h => by
   simp only [zd2,Bool.and_eq_true] at h
   obtain ⟨hl,hr⟩ := zu1 hf h.2
   refine ⟨by simp [hl],fun j e he => ?_⟩
   cases j with
   | zero => simp at he; subst he; exact ⟨_,rfl,zz hf h.1⟩
   | succ j => exact hr j e (by simpa using he)
 | [],_ :: _,h => by simp [zd2] at h
 | _ :: _,[],h => by simp [zd2] at h
theorem r_int (op : BinOp) (t : TypeId) (k : IntKind) (x y : Int) (h : (dInt op k x y).1) :
   ∃ v,(binOp op t (.int k x) (.int k y)).run P w = .ok v w /\ IRep F w (dInt op k x y).2 v := by
 cases op <;> simp only [dInt] at h |- <;>
   first
   | exact h.elim
   | (refine ⟨_,?_,IRep.int _ _⟩; simp [binOp,Op.intArith,Op.intDiv,Op.intBits,z9u,h]; done)
   | (refine ⟨_,?_,IRep.bool _⟩; simp [binOp,Op.intCmp]; done)
theorem r_str (op : BinOp) (t : TypeId) (x y : List UInt8) (h : (dStr op x y).1) :
   ∃ v,(binOp op t (.string ⟨x.toArray⟩) (.string ⟨y.toArray⟩)).run P w = .ok v w /\ IRep F w (dStr op x y).2 v := by
 have hs : ∀ l : List UInt8,(⟨l.toArray⟩ : ByteArray).size = l.length := fun l => by simp [ByteArray.size]
 have happ : (⟨x.toArray⟩ : ByteArray) ++ ⟨y.toArray⟩ = ⟨(x ++ y).toArray⟩ := by
   apply ByteArray.ext; simp [ByteArray.data_append]
 cases op <;> simp only [dStr] at h |- <;>
   first
   | exact h.elim
   | (refine ⟨_,?_,IRep.bool _⟩; simp [binOp,Op.stringOp]; done)
   | (refine ⟨_,?_,IRep.str _⟩
      have h' : ¬ (((x.length : Int) + (y.length : Int)) > IntKind.i64.max) := by
        simp only [strMax] at h
        have : IntKind.i64.max = 9223372036854775807 := by decide
        omega
      simp only [binOp,Op.stringOp,hs,Int.natCast_add,if_neg h',happ,Sem.run_pure])
theorem r_un (op : UnOp) (d : DV) (v : Value) (hv : VRep F σ hp w d v) (h : (dUn op d).1) : ∃ u,(Op.unary op v).run P w = .ok u w /\ IRep F w (dUn op d).2 u := by
 unfold dUn at h |-
 split at h
 . rename_i k n
   have := hv.int_inv; subst this
   cases op <;> first | exact h.elim | (refine ⟨_,?_,IRep.int _ _⟩; simp [Op.unary,Op.intArith,Op.intBits,z9u]; done)
 . rename_i b
   have := hv.bool_inv; subst this
   cases op <;> first | exact h.elim | (refine ⟨_,?_,IRep.bool _⟩; simp [Op.unary]; done)
 . exact h.elim
theorem zai {t : TypeId} {d : TypeDesc} (h : P.underlying t = some d) : (underlying t).run P w = .ok d w := run_underlying h w
theorem r_beq {t : TypeId} (ht : P.underlying t = some .bool) (a b : Bool) : (Op.equal t (.bool a) (.bool b)).run P w = .ok (a == b) w := by
 have h : ∀ n : Nat,(Op.equalIn (n + 1) t (.bool a) (.bool b)).run P w = .ok (a == b) w := fun n => by
   simp [Op.equalIn,zai ht]
 exact h 9999
theorem r_seq {t e : TypeId} (ht : P.underlying t = some (.slice e)) (A : Option Addr) (n c : Nat) :
   (Op.equal t (.slice A n c) (.slice none 0 0)).run P w = .ok A.isNone w := by
 have h : ∀ k : Nat,(Op.equalIn (k + 1) t (.slice A n c) (.slice none 0 0)).run P w = .ok A.isNone w := fun k => by
   cases A <;> simp [Op.equalIn,zai ht]
 exact h 9999
theorem z2m {t : TypeId} {sz : Option Nat} (hsz : szOf P t = some sz) {cs : List DV} {vs : Array Value} (hl : cs.length = vs.size)
   (hv : ∀ (j : Nat) (d : DV),cs[j]? = some d -> ∃ u,vs[j]? = some u /\ VRep F σ hp w d u) (off : Nat) (h : (zh sz (True,cs.drop off)).1) :
   ∃ u,(part t vs off).run P w = .ok u w /\ VRep F σ hp w (zh sz (True,cs.drop off)).2 u := by
 unfold szOf at hsz
 split at hsz
 . rename_i fs i hu hi
   simp at hsz; subst hsz
   simp only [zh,true_and,List.length_drop] at h |-
   refine ⟨_,by simp [part,isAgg,zai hu,sizeOf,typeInfo,hi]; rfl,VRep.agg_mk ?_ fun j d hd => ?_⟩
   . simp; omega
   . rw [List.getElem?_take] at hd
     split at hd
     . rename_i hj
       rw [List.getElem?_drop] at hd
       obtain ⟨u,hu',hr⟩ := hv _ _ hd
       refine ⟨u,?_,hr⟩
       rw [Array.getElem?_extract]
       simp [hu']
       omega
     . cases hd
 . rename_i fs e i hu hi
   simp at hsz; subst hsz
   simp only [zh,true_and,List.length_drop] at h |-
   refine ⟨_,by simp [part,isAgg,zai hu,sizeOf,typeInfo,hi]; rfl,VRep.agg_mk ?_ fun j d hd => ?_⟩
   . simp; omega
   . rw [List.getElem?_take] at hd
     split at hd
     . rename_i hj
       rw [List.getElem?_drop] at hd
       obtain ⟨u,hu',hr⟩ := hv _ _ hd
       refine ⟨u,?_,hr⟩
       rw [Array.getElem?_extract]
       simp [hu']
       omega
     . cases hd
 . rename_i d i h1 h2 hu hi
   simp at hsz; subst hsz
   simp only [zh,true_and,List.length_drop] at h |-
   have hlt : off < cs.length := by omega
   obtain ⟨u,hu',hr⟩ := hv off cs[off] (by simp [hlt])
   have hag : (isAgg t).run P w = .ok false w := by
     simp only [isAgg,Sem.run_bind,zai hu,Result.andThen_ok]
     rfl
   refine ⟨u,by simp [part,hag,hu'],?_⟩
   have : (cs.drop off).getD 0 .undef = cs[off] := by simp [hlt]
   rw [this]; exact hr
 . cases hsz
theorem IRep.sl_inv {es : List (List DV)} {v : Value} (h : IRep F w (.sl es) v) :
   ∃ A c z,v = .slice A es.length c /\ es.length <= c /\ (es ≠ [] -> ∃ a,A = some a /\ a.spot = none /\ F a.block /\
     ∀ i j d,z1 es i j = some d -> ∃ u,w.cell? ⟨a.block,a.off + (i * z + j),none⟩ = some u /\ d.one = true /\ IRep F w d u) /\
     (∀ (i : Nat) (e : List DV),es[i]? = some e -> e.length = z) := by
 cases h with
 | sl es A n c a z cv hn hnc hA hz hc hr =>
   subst hn
   exact ⟨A,c,z,rfl,hnc,fun h => ⟨a,(hA h).1,(hA h).2.1,(hA h).2.2,fun i j d hd => ⟨_,(hc i j d hd).1,(hc i j d hd).2,hr i j d hd⟩⟩,hz⟩
theorem IRep.ref_inv {cs : List DV} {v : Value} (h : IRep F w (.ref cs) v) :
   ∃ a,v = .pointer (some a) /\ a.spot = none /\ F a.block /\ ∀ (j : Nat) (d : DV),cs[j]? = some d -> ∃ u,w.cell? ⟨a.block,a.off + j,none⟩ = some u /\ d.one = true /\ IRep F w d u := by
 cases h with
 | ref cs a cv hs hF hc hr => exact ⟨a,rfl,hs,hF,fun j d hd => ⟨_,(hc j d hd).1,(hc j d hd).2,hr j d hd⟩⟩
theorem IRep.sl_mk {z : Nat} {es : List (List DV)} {A : Option Addr} {c : Nat} (hlc : es.length <= c) (hz : ∀ (i : Nat) (e : List DV),es[i]? = some e -> e.length = z)
   (h : es ≠ [] -> ∃ a,A = some a /\ a.spot = none /\ F a.block /\ ∀ i j d,z1 es i j = some d -> ∃ u,w.cell? ⟨a.block,a.off + (i * z + j),none⟩ = some u /\ d.one = true /\ IRep F w d u) :
   IRep F w (.sl es) (.slice A es.length c) := by
 by_cases he : es = []
 . subst he
   exact .sl [] A 0 c ⟨0,0,none⟩ z (fun _ _ => undef) rfl (Nat.zero_le _) (fun h => absurd rfl h) hz (fun i j d hd => by simp [z1] at hd) (fun i j d hd => by simp [z1] at hd)
 . obtain ⟨a,rfl,hs,hF,hc⟩ := h he
   refine .sl es (some a) _ c a z (fun i j => (w.cell? ⟨a.block,a.off + (i * z + j),none⟩).getD undef) rfl hlc (fun _ => ⟨rfl,hs,hF⟩) hz (fun i j d hd => ?_) (fun i j d hd => ?_)
   . obtain ⟨u,hu,h1,_⟩ := hc i j d hd
     simp [hu,h1]
   . obtain ⟨u,hu,_,h1⟩ := hc i j d hd
     simpa [hu] using h1
theorem IRep.ref_mk {cs : List DV} {a : Addr} (hs : a.spot = none) (hF : F a.block)
   (hc : ∀ (j : Nat) (d : DV),cs[j]? = some d -> ∃ u,w.cell? ⟨a.block,a.off + j,none⟩ = some u /\ d.one = true /\ IRep F w d u) : IRep F w (.ref cs) (.pointer (some a)) := by
 refine .ref cs a (fun j => (w.cell? ⟨a.block,a.off + j,none⟩).getD undef) hs hF (fun j d hd => ?_) (fun j d hd => ?_)
 . obtain ⟨u,hu,h1,_⟩ := hc j d hd
   simp [hu,h1]
 . obtain ⟨u,hu,_,h1⟩ := hc j d hd
   simpa [hu] using h1
theorem zfj {a : Addr} (h : a.spot = none) (n : Nat) : a.add n = ⟨a.block,a.off + n,none⟩ := by
 unfold Addr.add
 split
 . subst_vars; cases a; simp at h; subst h; rfl
 . rfl
theorem r_load {t : TypeId} {sz : Option Nat} (hsz : szOf P t = some sz) {R : DV -> Value -> Prop} {cs : List DV} {a : Addr} (hs : a.spot = none)
   (hc : ∀ (j : Nat) (d : DV),cs[j]? = some d -> ∃ u,w.cell? ⟨a.block,a.off + j,none⟩ = some u /\ R d u) (h : (zh sz (True,cs)).1) :
   ∃ u,(loadVar t a).run P w = .ok u w /\ (match sz with | none => ∃ d,cs[0]? = some d /\ R d u | some n => ∃ vs : Array Value,u = .agg vs /\ vs.size = n /\ ∀ (j : Nat) (d : DV),(cs.take n)[j]? = some d -> ∃ x,vs[j]? = some x /\ R d x) := by
 have big : ∀ n : Nat,n <= cs.length -> ∃ vs : Array Value,(loadCells a n).run P w = .ok vs w /\ vs.size = n /\ ∀ (j : Nat) (d : DV),(cs.take n)[j]? = some d -> ∃ x,vs[j]? = some x /\ R d x := by
   intro n hn
   have hcell : ∀ j,j < n -> w.cell? (a.add j) = some ((w.cell? (a.add j)).getD undef) := by
     intro j hj
     obtain ⟨u,hu,_⟩ := hc j cs[j] (by simp)
     rw [zfj hs,hu]; rfl
   have hl := run_loadCells (P := P) (w := w) a n (fun j => (w.cell? (a.add j)).getD undef) hcell
   refine ⟨_,hl,by simp,fun j d hd => ?_⟩
   rw [List.getElem?_take] at hd
   split at hd
   . rename_i hj
     obtain ⟨u,hu,hr⟩ := hc j d hd
     refine ⟨u,?_,hr⟩
     simp [hj,zfj hs,hu]
   . cases hd
 unfold szOf at hsz
 split at hsz
 . rename_i fs i hu hi
   simp at hsz; subst hsz
   simp only [zh,true_and] at h
   obtain ⟨vs,h1,h2,h3⟩ := big i.size h
   exact ⟨.agg vs,by simp [loadVar,isAgg,zai hu,sizeOf,typeInfo,hi,h1],vs,rfl,h2,h3⟩
 . rename_i n e i hu hi
   simp at hsz; subst hsz
   simp only [zh,true_and] at h
   obtain ⟨vs,h1,h2,h3⟩ := big i.size h
   exact ⟨.agg vs,by simp [loadVar,isAgg,zai hu,sizeOf,typeInfo,hi,h1],vs,rfl,h2,h3⟩
 . rename_i d i h1 h2 hu hi
   simp at hsz; subst hsz
   simp only [zh,true_and] at h
   obtain ⟨u,hu',hr⟩ := hc 0 cs[0] (by simp)
   have hag : (isAgg t).run P w = .ok false w := by
     simp only [isAgg,Sem.run_bind,zai hu,Result.andThen_ok]
     rfl
   refine ⟨u,?_,cs[0],by simp,hr⟩
   have : w.cell? a = some u := by cases a; simp at hs; subst hs; simpa using hu'
   simp [loadVar,hag,this]
 . cases hsz
end
end Go.Nk
set_option linter.all false
namespace Go.Nk
open Go.RowKit
section
variable {P : Program} {K F : Nat -> Prop} {σ : Nat -> Option Nat} {hp : List DObj} {w : World}
theorem ziy {w : World} {g : Nat} {c : Array Value} {ty : TypeId} {m : Nat × Nat} (h : w.heap[g]? = some (.cells c ty m)) (n : Nat) : w.cell? ⟨g,n,none⟩ = c[n]? := by
 simp [World.cell?,h]
theorem Blk.at_ {g z : Nat} {es : List (List DV)} {R : DV -> Value -> Prop} (h : Blk w g z es R) {i j : Nat} {d : DV} (hd : z1 es i j = some d) :
   ∃ u,w.cell? ⟨g,i * z + j,none⟩ = some u /\ R d u := by
 obtain ⟨c,ty,hh,_,_,hc⟩ := h
 obtain ⟨u,hu,hr⟩ := hc i j d hd
 exact ⟨u,by rw [ziy hh]; exact hu,hr⟩
theorem Blk.mono {g z : Nat} {es : List (List DV)} {R R' : DV -> Value -> Prop} {w' : World} (h : Blk w g z es R) (hw : w'.heap[g]? = w.heap[g]?) (hR : ∀ d v,R d v -> R' d v) : Blk w' g z es R' := by
 obtain ⟨c,ty,hh,h1,h2,hc⟩ := h
 exact ⟨c,ty,hw.trans hh,h1,h2,fun i j d hd => let ⟨v,hv,hr⟩ := hc i j d hd; ⟨v,hv,hR _ _ hr⟩⟩
theorem MBlk.mono {g : Nat} {es : List (List UInt8 × DV)} {R R' : DV -> Value -> Prop} {w' : World} (h : MBlk w g es R) (hw : w'.heap[g]? = w.heap[g]?) (hR : ∀ d v,R d v -> R' d v) : MBlk w' g es R' := by
 obtain ⟨c,n,hh,h1,hc⟩ := h
 exact ⟨c,n,hw.trans hh,h1,fun i x hx => let ⟨e,he,hk,hr⟩ := hc i x hx; ⟨e,he,hk,hR _ _ hr⟩⟩
theorem MBlk.lt {g : Nat} {es : List (List UInt8 × DV)} {R : DV -> Value -> Prop} (h : MBlk w g es R) : g < w.heap.size := by
 obtain ⟨c,n,hh,_⟩ := h
 rcases Nat.lt_or_ge g w.heap.size with h' | h'
 . exact h'
 . rw [Array.getElem?_eq_none h'] at hh; cases hh
theorem ORep.cells {h : Nat} {o : DObj} (ho : ORep K F σ hp w h o) (hd : o.k ≠ .dead) (hne : o.es ≠ []) :
   ∃ g,σ h = some g /\ Blk w g o.z o.es (fun d v => VRep F σ hp w d v) := by
 unfold ORep at ho
 split at ho
 . exact absurd (by assumption) hd
 . rcases ho with ⟨h0,_⟩ | ⟨g,hg,_,_,hb⟩
   . exact absurd h0 hne
   . exact ⟨g,hg,hb.mono rfl fun d v h => .imm h.1⟩
 . rcases ho with ⟨h0,_⟩ | ⟨g,hg,_,hb⟩
   . exact absurd h0 hne
   . exact ⟨g,hg,hb.mono rfl fun d v h => .imm h.1⟩
 . obtain ⟨g,hg,_,_,hb⟩ := ho
   exact ⟨g,hg,hb⟩
 . exact absurd ho.1.1 hne
theorem ORep.icells {h : Nat} {o : DObj} (ho : ORep K F σ hp w h o) (hd : o.k = .imm \/ o.k = .frz) (hne : o.es ≠ []) :
   ∃ g,σ h = some g /\ Blk w g o.z o.es (fun d v => IRep F w d v /\ d.one = true) := by
 unfold ORep at ho
 rcases hd with hd | hd <;> rw [hd] at ho <;> dsimp only at ho
 . rcases ho with ⟨h0,_⟩ | ⟨g,hg,_,_,hb⟩
   . exact absurd h0 hne
   . exact ⟨g,hg,hb⟩
 . rcases ho with ⟨h0,_⟩ | ⟨g,hg,_,hb⟩
   . exact absurd h0 hne
   . exact ⟨g,hg,hb⟩
theorem zvj {es : List (List DV)} {i j k : Nat} {d : DV} (h : ((es.getD i []).drop j)[k]? = some d) : z1 es i (j + k) = some d := by
 rw [List.getElem?_drop] at h
 unfold z1
 cases he : es[i]? with
 | none => simp [List.getD,he] at h
 | some e => simpa [List.getD,he] using h
theorem zxg [Inhabited Env] (hs : SimH K F σ hp w) {d : DV} {v : Value} (hv : VRep F σ hp w d v) (h : (za hp d).1) :
   ∃ a,v = .pointer (some a) /\ a.spot = none /\ ∀ (j : Nat) (e : DV),(za hp d).2[j]? = some e -> ∃ u,w.cell? ⟨a.block,a.off + j,none⟩ = some u /\ VRep F σ hp w e u := by
 unfold za at h |-
 split at h
 . rename_i cs
   obtain ⟨a,rfl,h1,h2,h3⟩ := hv.ref_inv.ref_inv
   exact ⟨a,rfl,h1,fun j e he => let ⟨u,hu,_,hr⟩ := h3 j e he; ⟨u,hu,.imm hr⟩⟩
 . rename_i h' L i j
   obtain ⟨hh,ho⟩ := hv.ptr_inv
   cases hob : hp[h']? with
   | none => simp [hob] at h
   | some o =>
     simp only [hob] at h |-
     split at h
     . exact h.elim
     . rename_i hk
       simp only [if_neg hk]
       obtain ⟨hL,hi⟩ := h
       obtain ⟨g,hg,hv'⟩ := (ho o hob).2 hk hL
       obtain ⟨g',hg',hb⟩ := (hs.obj _ _ hob).cells hk (fun e => by rw [e] at hL; simp at hL; omega)
       rw [hg] at hg'; injection hg' with hg'; subst hg'
       refine ⟨_,hv',rfl,fun k e he => ?_⟩
       obtain ⟨u,hu,hr⟩ := hb.at_ (zvj he)
       exact ⟨u,by simpa [Nat.add_assoc] using hu,hr⟩
 . exact h.elim
theorem yfc [Inhabited Env] (hs : SimH K F σ hp w) {t : TypeId} {sz : Option Nat} (hsz : szOf P t = some sz) {d : DV} {v : Value} (hv : VRep F σ hp w d v)
   (h : (zh sz (za hp d)).1) : ∃ u,(Instr.loadAt t v).run P w = .ok u w /\ VRep F σ hp w (zh sz (za hp d)).2 u := by
 have h1 : (za hp d).1 := by cases sz <;> exact h.1
 obtain ⟨a,rfl,hs',hc⟩ := zxg hs hv h1
 obtain ⟨u,hu,hr⟩ := r_load (P := P) hsz hs' hc (by cases sz <;> exact ⟨trivial,h.2⟩)
 refine ⟨u,by simp [Instr.loadAt,Instr.sureAddr,hu],?_⟩
 cases sz with
 | none =>
   obtain ⟨d0,h0,hr⟩ := hr
   have : (za hp d).2.getD 0 .undef = d0 := by simp [List.getD,h0]
   simp only [zh,this]; exact hr
 | some n =>
   obtain ⟨vs,rfl,hn,hr⟩ := hr
   exact VRep.agg_mk (by simp [hn]; exact Nat.min_eq_left h.2) hr
theorem zs5 {α : Type} (l : List α) (off len : Nat) (h : off + len <= l.length) : ((l.drop off).take len).length = len := by simp; omega
theorem zsu {es : List (List DV)} {off len i j : Nat} {d : DV} (h : z1 ((es.drop off).take len) i j = some d) : z1 es (off + i) j = some d := by
 unfold z1 at h |-
 rw [List.getElem?_take] at h
 split at h
 . rwa [List.getElem?_drop] at h
 . simp at h
theorem ziu [Inhabited Env] (hs : SimH K F σ hp w) {d : DV} {v : Value} (hv : VRep F σ hp w d v) (h : (zy hp d).pre) (hstr : ∀ s,d ≠ .str s) :
   ∃ A c z,v = .slice A (zy hp d).es.length c /\ (zy hp d).es.length <= c /\ (∀ (i : Nat) (e : List DV),(zy hp d).es[i]? = some e -> e.length = z) /\
     ((zy hp d).es ≠ [] -> ∃ a,A = some a /\ a.spot = none /\ (F a.block \/ ∃ h L off len,d = .own h L off len /\ σ h = some a.block) /\
       ∀ i j e,z1 (zy hp d).es i j = some e -> ∃ u,w.cell? ⟨a.block,a.off + (i * z + j),none⟩ = some u /\ e.one = true /\ IRep F w e u) /\ (A = none -> (zy hp d).es = []) := by
 unfold zy at h |-
 split at h
 . have := hv.nil_inv; subst this
   exact ⟨none,0,0,rfl,Nat.le_refl _,fun i e he => by simp at he,fun h => absurd rfl h,fun _ => rfl⟩
 . rename_i es
   obtain ⟨A,c,z,rfl,hlc,h1,h2⟩ := hv.sl_inv.sl_inv
   refine ⟨A,c,z,rfl,hlc,h2,fun hne => ?_,fun hA => ?_⟩
   . obtain ⟨a,e1,e2,e3,e4⟩ := h1 hne
     exact ⟨a,e1,e2,.inl e3,e4⟩
   . by_cases hne : es = []
     . exact hne
     . obtain ⟨a,e1,_⟩ := h1 hne
       rw [hA] at e1; cases e1
 . rename_i h' L off len
   obtain ⟨hh,ho⟩ := hv.own_inv
   cases hob : hp[h']? with
   | none => simp [hob] at h
   | some o =>
     simp only [hob] at h |-
     split at h
     . rename_i hk
       simp only [if_pos hk]
       obtain ⟨hL,hlen⟩ := h
       have hkd : o.k ≠ .dead := by rcases hk with e | e <;> rw [e] <;> simp
       obtain ⟨A,cap,hv',hle,hA⟩ := (ho o hob).2 hkd hL
       have hl : ((o.es.drop off).take len).length = len := zs5 _ _ _ (by omega)
       have hzz : o.es ≠ [] -> ∀ (i : Nat) (e : List DV),o.es[i]? = some e -> e.length = o.z := fun hne => by
         obtain ⟨g',hg',c',ty,_,_,hz,_⟩ := (hs.obj _ _ hob).icells hk hne
         exact hz
       refine ⟨A,cap,o.z,by rw [hv',hl],by rw [hl]; exact hle,fun i e he => ?_,fun hne => ?_,fun hA' => ?_⟩
       . have hne : o.es ≠ [] := fun e' => by rw [e'] at he; simp at he
         rw [List.getElem?_take] at he
         split at he
         . rw [List.getElem?_drop] at he
           exact hzz hne _ _ he
         . cases he
       . have hlen0 : 0 < len := by
           rw [<- hl]
           exact List.length_pos_iff.2 hne
         have hne' : o.es ≠ [] := fun e' => by rw [e'] at hne; simp at hne
         rcases hA with h0 | ⟨g,hg,rfl,hcap⟩
         . omega
         . obtain ⟨g',hg',hb⟩ := (hs.obj _ _ hob).icells hk hne'
           rw [hg] at hg'; injection hg' with hg'; subst hg'
           refine ⟨_,rfl,rfl,.inr ⟨h',L,off,len,rfl,hg⟩,fun i j e he => ?_⟩
           obtain ⟨u,hu,hr,h1⟩ := hb.at_ (zsu he)
           refine ⟨u,?_,h1,hr⟩
           rw [<- hu]
           congr 2
           rw [Nat.add_mul,Nat.add_assoc]
       . rcases hA with h0 | ⟨g,hg,rfl,hcap⟩
         . have : len = 0 := by omega
           subst this; simp
         . cases hA'
     . exact h.elim
 . rename_i s; exact absurd rfl (hstr s)
 . exact h.elim
def zeb [Inhabited Env] (K F : Nat -> Prop) (σ : Nat -> Option Nat) (hp : List DObj) (w : World) (val : DV) (hp' : List DObj) (v : Value) (w' : World) : Prop :=
 ∃ F' σ',SimH K F' σ' hp' w' /\ Moves K F w F' w' /\ HM F σ hp w F' σ' hp' w' /\ VRep F' σ' hp' w' val v
theorem zeb.same [Inhabited Env] (hs : SimH K F σ hp w) {d : DV} {v : Value} (h : VRep F σ hp w d v) : zeb K F σ hp w d hp v w :=
 ⟨F,σ,hs,.refl _ _ _,.refl _ _ _ _,h⟩
end
end Go.Nk
set_option linter.all false
namespace Go.Nk
open Go.RowKit
section
variable {P : Program} {K F : Nat -> Prop} {σ : Nat -> Option Nat} {hp : List DObj} {w : World} {fr : List (Nat × DV)} {a : Act} {o : Oper}
def zdj (P : Program) (F : Nat -> Prop) (σ : Nat -> Option Nat) (hp : List DObj) (w : World) (o : Oper) (a : Act) (val : DV) : Prop :=
 ∃ v,(execOp a.eval o).run P w = .ok (.value v) w /\ VRep F σ hp w val v
theorem q_mv {x : Operand} {y : DA} (ho : o.op = .move x \/ o.op = .assign x) (hf : FRep F σ hp w fr a.tmps) (hm : mArg x y = true) : zdj P F σ hp w o a (y.ev fr) := by
 refine ⟨a.eval x,?_,zz hf hm⟩
 rcases ho with ho | ho <;> simp [execOp,ho]
theorem q_bin {op : BinOp} {t u : TypeId} {x y : Operand} {x' y' : DA} (ho : o.op = .binOp op t x y u) (hf : FRep F σ hp w fr a.tmps) (hx : mArg x x' = true) (hy : mArg y y' = true)
   (h : (dBin op (x'.ev fr) (y'.ev fr)).1) : zdj P F σ hp w o a (dBin op (x'.ev fr) (y'.ev fr)).2 := by
 have vx := zz hf hx
 have vy := zz hf hy
 have key : ∃ v,(do eqGuard op t x y (a.eval x) (a.eval y); binOp op t (a.eval x) (a.eval y) : Sem Value).run P w = .ok v w /\ IRep F w (dBin op (x'.ev fr) (y'.ev fr)).2 v := by
   generalize x'.ev fr = dx at *
   generalize y'.ev fr = dy at *
   unfold dBin at h |-
   split at h
   . rename_i k i k' j
     have e1 := vx.int_inv
     have e2 := vy.int_inv
     rw [e1,e2]
     have hg : (eqGuard op t x y (.int k i) (.int k' j)).run P w = .ok () w := by
       unfold eqGuard; cases op <;> simp
     rw [Sem.run_bind,hg,Result.andThen_ok]
     split at h
     . refine ⟨_,?_,IRep.int _ _⟩
       have : ¬ j < 0 := by simpa using h
       simp [binOp,Op.shift,this]
     . refine ⟨_,?_,IRep.int _ _⟩
       have : ¬ j < 0 := by simpa using h
       simp [binOp,Op.shift,this]
     . rename_i n1 n2
       split at h
       . rename_i hk
         subst hk
         rw [if_pos rfl]
         exact r_int op t k i j h
       . exact h.elim
   . rename_i s1 s2
     have e1 := vx.str_inv
     have e2 := vy.str_inv
     rw [e1,e2]
     have hg : (eqGuard op t x y (.string ⟨s1.toArray⟩) (.string ⟨s2.toArray⟩)).run P w = .ok () w := by
       unfold eqGuard; cases op <;> simp
     rw [Sem.run_bind,hg,Result.andThen_ok]
     exact r_str op t s1 s2 h
   . exact h.elim
 obtain ⟨v,h1,h2⟩ := key
 exact ⟨v,by simp only [execOp,ho,Sem.run_bind] at h1 |-; rw [h1]; rfl,.imm h2⟩
theorem zrn {n : Bool} {op : BinOp} (h : isEq n op = true) : (n = true /\ op = .neq) \/ (n = false /\ op = .eql) := by
 unfold isEq at h
 split at h
 . rename_i hn; exact .inl ⟨hn,by simpa using h⟩
 . rename_i hn; exact .inr ⟨by simpa using hn,by simpa using h⟩
theorem q_eq {op : BinOp} {n : Bool} {t u : TypeId} {x y : Operand} (ho : o.op = .binOp op t x y u) (b : Bool)
   (hg : (eqGuard op t x y (a.eval x) (a.eval y)).run P w = .ok () w) (hb : (binOp op t (a.eval x) (a.eval y)).run P w = .ok (.bool (if n then !b else b)) w) :
   zdj P F σ hp w o a (.bool (if n then !b else b)) := by
 refine ⟨_,?_,.imm (.bool _)⟩
 simp only [execOp,ho,Sem.run_bind,hg,Result.andThen_ok,hb]
 rfl
theorem q_beq {op : BinOp} {n : Bool} {t u : TypeId} {x y : Operand} {x' y' : DA} (ho : o.op = .binOp op t x y u) (hn : isEq n op = true) (ht : P.underlying t = some .bool) (hf : FRep F σ hp w fr a.tmps) (hx : mArg x x' = true) (hy : mArg y y' = true)
   (h : (dBeq n (x'.ev fr) (y'.ev fr)).1) : zdj P F σ hp w o a (dBeq n (x'.ev fr) (y'.ev fr)).2 := by
 have vx := zz hf hx
 have vy := zz hf hy
 generalize x'.ev fr = dx at *
 generalize y'.ev fr = dy at *
 unfold dBeq at h |-
 split at h
 . rename_i p q
   have e1 := vx.bool_inv
   have e2 := vy.bool_inv
   refine q_eq ho (p == q) ?_ ?_ <;> rw [e1,e2]
   . unfold eqGuard; cases op <;> simp
   . rcases zrn hn with ⟨rfl,rfl⟩ | ⟨rfl,rfl⟩ <;> simp [binOp,r_beq ht]
 . exact h.elim
theorem z3q {k : Nat} {ks : List Nat} {cs ds : List DV} {r : Bool} (h : zbt (k :: ks) cs ds = some r) :
   ∃ (c : DV) (cs' : List DV) (d : DV) (ds' : List DV) (b : Bool),cs = c :: cs' /\ ds = d :: ds' /\ ∀ ks2 cs2 ds2,zbt (k :: ks2) (c :: cs2) (d :: ds2) = if b then zbt ks2 cs2 ds2 else some false := by
 rcases cs with _ | ⟨c,cs⟩
 . rcases k with _ | _ | _ | k <;> simp [zbt] at h
 rcases ds with _ | ⟨d,ds⟩
 . rcases k with _ | _ | _ | k <;> cases c <;> simp [zbt] at h
 rcases k with _ | _ | _ | k <;> cases c <;> cases d <;> try (simp [zbt] at h; done)
 . rename_i k1 a k2 b
   by_cases hk : k1 = k2
   . exact ⟨_,_,_,_,(a == b),rfl,rfl,fun ks2 cs2 ds2 => by simp only [zbt,if_pos hk]⟩
   . simp [zbt,if_neg hk] at h
 . rename_i a b
   exact ⟨_,_,_,_,(a == b),rfl,rfl,fun ks2 cs2 ds2 => rfl⟩
 . rename_i a b
   exact ⟨_,_,_,_,(a == b),rfl,rfl,fun ks2 cs2 ds2 => rfl⟩
theorem zwr : ∀ (n : Nat) (ks : List Nat) (cs ds : List DV) (r : Bool),n <= ks.length -> zbt ks cs ds = some r ->
   ∃ q,zbt (ks.take n) (cs.take n) (ds.take n) = some q /\ (if q then zbt (ks.drop n) (cs.drop n) (ds.drop n) else some false) = some r
 | 0,ks,cs,ds,r,_,h => ⟨true,by simp [zbt],by simpa using h⟩
 | n + 1,[],cs,ds,r,hn,h => by simp at hn
 | n + 1,k :: ks,cs,ds,r,hn,h => by
   have hn' : n <= ks.length := by simpa using hn
   obtain ⟨c,cs',d,ds',b,rfl,rfl,hb⟩ := z3q h
   rw [hb] at h
   simp only [List.take_succ_cons,List.drop_succ_cons,hb]
   cases b
   . exact ⟨false,rfl,by simpa using h⟩
   . obtain ⟨q,h1,h2⟩ := zwr n ks cs' ds' r hn' (by simpa using h)
     exact ⟨q,by simpa using h1,h2⟩
theorem zg5 {nest : TypeId -> List Nat -> Bool} {cs ds : List DV} {vs us : Array Value} (hv : ∀ (j : Nat) (d : DV),cs[j]? = some d -> ∃ u,vs[j]? = some u /\ VRep F σ hp w d u) (hu : ∀ (j : Nat) (d : DV),ds[j]? = some d -> ∃ u,us[j]? = some u /\ VRep F σ hp w d u)
   (hlv : cs.length = vs.size) (hlu : ds.length = us.size) (k' : Nat)
   (hnest : ∀ t ks cs' ds' u v q,nest t ks = true -> cs'.length = ks.length -> ds'.length = ks.length -> VRep F σ hp w (.agg cs') u -> VRep F σ hp w (.agg ds') v -> zbt ks cs' ds' = some q -> (Op.equalIn (k' + 1) t u v).run P w = .ok q w) :
   ∀ (fs : List Field) (ks : List Nat) (k : Nat) (r : Bool),zdz P nest k fs ks = true -> cs.length = k + ks.length -> ds.length = k + ks.length -> zbt ks (cs.drop k) (ds.drop k) = some r ->
   (Op.eqFields (k' + 1) vs us fs).run P w = .ok r w
 | [],ks,k,r,hs,_,_,h => by
   simp only [zdz,List.isEmpty_iff] at hs
   subst hs
   unfold zbt at h
   split at h
   . simp only [Option.some.injEq] at h; subst h; simp [Op.eqFields]
   . rename_i e _ _; cases e
   . rename_i e _ _; cases e
   . rename_i e _ _; cases e
   . cases h
 | f :: fs,ks,k,r,hs,g1,g2,h => by
   simp only [zdz,Bool.and_eq_true,beq_iff_eq,bne_iff_ne,ne_eq] at hs
   obtain ⟨⟨ho,hn⟩,hr⟩ := hs
   have go : ∀ (u v : Value) (b : Bool),(part f.type vs k).run P w = .ok u w -> (part f.type us k).run P w = .ok v w -> (Op.equalIn (k' + 1) f.type u v).run P w = .ok b w ->
       (b = true -> (Op.eqFields (k' + 1) vs us fs).run P w = .ok r w) -> (b = false -> r = false) -> (Op.eqFields (k' + 1) vs us (f :: fs)).run P w = .ok r w := by
     intro u v b pu pv hb h1 h2
     simp only [Op.eqFields,ne_eq,hn,not_false_eq_true,if_true,ho,Sem.run_bind,pu,pv,hb,Result.andThen_ok]
     cases b
     . simp [h2 rfl]
     . simpa using h1 rfl
   split at hr
   . rename_i hsz
     split at hr
     . rename_i n ns
       simp only [Bool.and_eq_true] at hr
       obtain ⟨hsc,hr⟩ := hr
       have fit : ∀ (x y : DV) (t t' : List DV),cs.drop k = x :: t -> ds.drop k = y :: t' -> t = cs.drop (k + 1) /\ t' = ds.drop (k + 1) /\
           ∃ u v,(part f.type vs k).run P w = .ok u w /\ (part f.type us k).run P w = .ok v w /\ VRep F σ hp w x u /\ VRep F σ hp w y v := by
         intro x y t t' e1 e2
         have a1 : t = cs.drop (k + 1) := by rw [<- List.drop_drop,e1]; rfl
         have a2 : t' = ds.drop (k + 1) := by rw [<- List.drop_drop,e2]; rfl
         obtain ⟨u,pu,ru⟩ := z2m (P := P) hsz hlv hv k (by rw [e1]; simp [zh])
         obtain ⟨v,pv,rv⟩ := z2m (P := P) hsz hlu hu k (by rw [e2]; simp [zh])
         have d1 : (zh none (True,cs.drop k)).2 = x := by rw [e1]; rfl
         have d2 : (zh none (True,ds.drop k)).2 = y := by rw [e2]; rfl
         rw [d1] at ru
         rw [d2] at rv
         exact ⟨a1,a2,u,v,pu,pv,ru,rv⟩
       have step : ∀ (u v : Value) (b : Bool),(part f.type vs k).run P w = .ok u w -> (part f.type us k).run P w = .ok v w -> (Op.equalIn (k' + 1) f.type u v).run P w = .ok b w ->
           (if b then zbt ns (cs.drop (k + 1)) (ds.drop (k + 1)) else some false) = some r -> (Op.eqFields (k' + 1) vs us (f :: fs)).run P w = .ok r w := by
         intro u v b pu pv hb hr'
         refine go u v b pu pv hb (fun e => ?_) (fun e => ?_)
         . subst e
           exact zg5 hv hu hlv hlu k' hnest fs ns (k + 1) r hr (by simp only [List.length_cons] at g1; omega) (by simp only [List.length_cons] at g2; omega) (by simpa using hr')
         . subst e; simpa using hr'.symm
       unfold zbt at h
       split at h
       . rename_i e _ _; cases e
       . rename_i ks1 k1 a r1 k2 b s1 e0 e1 e2
         cases e0
         obtain ⟨rfl,rfl,u,v,pu,pv,ru,rv⟩ := fit _ _ _ _ e1 e2
         split at h
         . rename_i hk; subst hk
           have f1 := ru.int_inv
           have f2 := rv.int_inv
           subst f1; subst f2
           unfold zto at hsc
           split at hsc
           . rename_i ht
             exact step _ _ _ pu pv (run_equalIn_int w k' _ _ _ _ _ ht) h
           . simp at hsc
           . simp at hsc
           . cases hsc
         . cases h
       . rename_i ks1 a r1 b s1 e0 e1 e2
         cases e0
         obtain ⟨rfl,rfl,u,v,pu,pv,ru,rv⟩ := fit _ _ _ _ e1 e2
         have f1 := ru.bool_inv
         have f2 := rv.bool_inv
         subst f1; subst f2
         unfold zto at hsc
         split at hsc
         . simp at hsc
         . rename_i ht
           exact step _ _ _ pu pv (run_equalIn_bool' w k' _ _ _ ht) h
         . simp at hsc
         . cases hsc
       . rename_i ks1 a r1 b s1 e0 e1 e2
         cases e0
         obtain ⟨rfl,rfl,u,v,pu,pv,ru,rv⟩ := fit _ _ _ _ e1 e2
         have f1 := ru.str_inv
         have f2 := rv.str_inv
         subst f1; subst f2
         unfold zto at hsc
         split at hsc
         . simp at hsc
         . simp at hsc
         . rename_i ht
           refine step _ _ (a == b) pu pv ?_ h
           rw [run_equalIn_string w k' _ _ _ ht,ByteArray.toList_eq,ByteArray.toList_eq]
         . cases hsc
       . cases h
     . cases hr
   . rename_i n hsz
     simp only [Bool.and_eq_true,decide_eq_true_eq] at hr
     obtain ⟨⟨hle,hne⟩,hr⟩ := hr
     obtain ⟨q,h1,h2⟩ := zwr n _ _ _ _ hle h
     have l1 : n <= (cs.drop k).length /\ n <= (ds.drop k).length := by
       rw [List.length_drop,List.length_drop]; omega
     obtain ⟨u,pu,ru⟩ := z2m (P := P) hsz hlv hv k (by simpa [zh] using l1.1)
     obtain ⟨v,pv,rv⟩ := z2m (P := P) hsz hlu hu k (by simpa [zh] using l1.2)
     refine go u v q pu pv (hnest _ _ _ _ _ _ _ hne (by simp only [List.length_take]; omega) (by simp only [List.length_take]; omega) ru rv h1) (fun e => ?_) (fun e => ?_)
     . subst e
       exact zg5 hv hu hlv hlu k' hnest fs (ks.drop n) (k + n) r hr (by rw [List.length_drop]; omega) (by rw [List.length_drop]; omega) (by simpa [List.drop_drop,Nat.add_comm] using h2)
     . subst e; simpa using h2.symm
   . cases hr
theorem q_aeq {op : BinOp} {n : Bool} {t u : TypeId} {x y : Operand} {x' y' : DA} {ks : List Nat} (ho : o.op = .binOp op t x y u) (hn : isEq n op = true) (ht : zqi P t ks = true) (hf : FRep F σ hp w fr a.tmps) (hx : mArg x x' = true) (hy : mArg y y' = true)
   (h : (dAeq n ks (x'.ev fr) (y'.ev fr)).1) : zdj P F σ hp w o a (dAeq n ks (x'.ev fr) (y'.ev fr)).2 := by
 have vx := zz hf hx
 have vy := zz hf hy
 generalize x'.ev fr = dx at *
 generalize y'.ev fr = dy at *
 unfold zqi at ht
 split at ht
 . rename_i fs hu
   simp only [Bool.and_eq_true,Bool.not_eq_true'] at ht
   obtain ⟨⟨hs,hst⟩,hg⟩ := ht
   have hfs : P.fieldsOf t = fs := by simp [Program.fieldsOf,hu]
   unfold dAeq at h |-
   split at h
   . rename_i cs ds
     obtain ⟨vs,e1,l1,r1⟩ := vx.agg_inv
     obtain ⟨us,e2,l2,r2⟩ := vy.agg_inv
     split at h
     . rename_i r hr
       obtain ⟨g1,g2⟩ := h
       have hrun : (Op.equalIn 10000 t (.agg vs) (.agg us)).run P w = .ok r w := by
         rw [run_equalIn_struct w 9999 t vs us (by rw [hfs]; exact hu) hst,hfs]
         refine zg5 r1 r2 l1 l2 9998 (fun t' ks' cs' ds' u v q hne n1 n2 ru rv hq => ?_) fs.toList ks 0 r hs (by omega) (by omega) hr
         unfold nest1 at hne
         split at hne
         . rename_i gs hu'
           simp only [Bool.and_eq_true,Bool.not_eq_true'] at hne
           obtain ⟨hs',hst'⟩ := hne
           obtain ⟨vs',rfl,l1',r1'⟩ := ru.agg_inv
           obtain ⟨us',rfl,l2',r2'⟩ := rv.agg_inv
           have hgs : P.fieldsOf t' = gs := by simp [Program.fieldsOf,hu']
           rw [run_equalIn_struct w 9998 t' vs' us' (by rw [hgs]; exact hu') hst',hgs]
           exact zg5 r1' r2' l1' l2' 9997 (fun _ _ _ _ _ _ _ h => by cases h) gs.toList ks' 0 q hs' (by omega) (by omega) hq
         . cases hne
       refine q_eq ho r ?_ ?_ <;> rw [e1,e2]
       . exact run_eqGuard_agg w op t x y vs us hg
       . rcases zrn hn with ⟨rfl,rfl⟩ | ⟨rfl,rfl⟩
         . rw [run_neq_struct,hrun]; rfl
         . rw [run_eql_struct,hrun]; rfl
     . exact h.elim
   . exact h.elim
 . cases ht
theorem q_snil {C : Orc} {op : BinOp} {n : Bool} {t u e : TypeId} {x : Operand} {x' : DA} (ho : o.op = .binOp op t x (.const (.slice none 0 0)) u) (hn : isEq n op = true) (ht : P.underlying t = some (.slice e)) (hf : FRep F σ hp w fr a.tmps) (hx : mArg x x' = true)
   (h : (dval C (.snil n x') ⟨fr,hp⟩).pre) : zdj P F σ hp w o a (dval C (.snil n x') ⟨fr,hp⟩).val := by
 have vx := zz hf hx
 simp only [dval] at h |-
 generalize x'.ev fr = dx at *
 have key : ∀ A m c,a.eval x = .slice A m c -> zdj P F σ hp w o a (.bool (if n then !A.isNone else A.isNone)) := by
   intro A m c e1
   have e2 : a.eval (.const (.slice none 0 0)) = .slice none 0 0 := rfl
   refine q_eq ho _ ?_ ?_ <;> rw [e1,e2]
   . unfold eqGuard; cases op <;> simp
   . rcases zrn hn with ⟨rfl,rfl⟩ | ⟨rfl,rfl⟩ <;> simp [binOp,r_seq ht]
 have anyq : ∀ b,zdj P F σ hp w o a (.bool b) -> zdj P F σ hp w o a .anyb := by
   rintro b ⟨v,h1,h2⟩
   exact ⟨v,h1,by rw [h2.bool_inv]; exact .imm (.anyb b)⟩
 split at h
 . have := key none 0 0 vx.nil_inv
   cases n <;> simpa using this
 . obtain ⟨A,m,c,e1⟩ : ∃ A m c,a.eval x = .slice A m c := by
     generalize a.eval x = v at vx |-
     cases vx.sl_inv
     exact ⟨_,_,_,rfl⟩
   exact anyq _ (key A m c e1)
 . rename_i r s
   obtain ⟨A,m,c,e1,hA⟩ : ∃ A m c,a.eval x = .slice A m c /\ A.isNone = false := by
     generalize a.eval x = v at vx |-
     cases vx.sl_inv with
     | sl _ A m c b z cv _ _ hA => exact ⟨A,m,c,rfl,by rw [(hA (by simp)).1]; rfl⟩
   have := key A m c e1
   rw [hA] at this
   cases n <;> simpa using this
 . rename_i h' L off len
   obtain ⟨hl,hob⟩ := vx.own_inv
   obtain ⟨A,cap,e1,hlc,e2⟩ : ∃ A cap,a.eval x = .slice A len cap /\ len <= cap /\ (cap = 0 \/ A.isNone = false) := by
     unfold alive at h
     cases hhp : hp[h']? with
     | none => simp [hhp] at h
     | some ob =>
       simp only [hhp] at h
       obtain ⟨A,cap,e1,e2,e3⟩ := (hob ob hhp).2 h.1 h.2
       exact ⟨A,cap,e1,e2,e3.imp id fun ⟨g,_,hA,_⟩ => by rw [hA]; rfl⟩
   have := key A len cap e1
   split
   . rename_i hlt
     rw [e2.resolve_left (by omega)] at this
     cases n <;> simpa using this
   . exact anyq _ this
 . exact h.elim
theorem q_un {op : UnOp} {t : TypeId} {x : Operand} {x' : DA} (ho : o.op = .unOp op t x) (hf : FRep F σ hp w fr a.tmps) (hx : mArg x x' = true)
   (h : (dUn op (x'.ev fr)).1) : zdj P F σ hp w o a (dUn op (x'.ev fr)).2 := by
 obtain ⟨v,h1,h2⟩ := r_un (P := P) op _ _ (zz hf hx) h
 exact ⟨v,by simp [execOp,ho,h1],.imm h2⟩
theorem q_conv {s t : TypeId} {k k' : IntKind} {n : Int} {x : Operand} (ho : o.op = .convert s t x) (hs : (P.underlying s).isSome = true) (ht : P.underlying t = some (.int k)) (hx : a.eval x = .int k' n) :
   zdj P F σ hp w o a (.int k (k.wrap n)) := by
 obtain ⟨d,hd⟩ := Option.isSome_iff_exists.1 hs
 refine ⟨_,?_,.imm (.int _ _)⟩
 simp [execOp,ho,hx,convert,zai hd,zai ht,Conv.intToInt]
theorem zj3 {b : Builtin} {xs : Array Operand} {ts : Array TypeId} {v : Value} {d : DV} (ho : o.op = .call { callee := .builtin b,args := xs,argTypes := ts })
   (hb : ∀ cs,(builtin b ts o.type cs (xs.map a.eval)).run P w = .ok (.value v) w) (hv : VRep F σ hp w d v) : zdj P F σ hp w o a d := by
 refine ⟨v,?_,hv⟩
 simp [execOp,ho,resolve,invoke,hb]
theorem z7o {b : Builtin} {mx : Bool} {xs : Array Operand} {ts : Array TypeId} {x y : Operand} {k : IntKind} {m n : Int} (hb : b = if mx then .max else .min)
   (ho : o.op = .call { callee := .builtin b,args := xs,argTypes := ts }) (hxs : xs = #[x,y]) (hx : a.eval x = .int k m) (hy : a.eval y = .int k n) :
   zdj P F σ hp w o a (.int k (if mx then max m n else min m n)) := by
 subst hb hxs
 refine zj3 ho (v := .int k (if mx then max m n else min m n)) (fun cs => ?_) (.imm (.int _ _))
 cases mx
 . have e : (if n < m then n else m) = min m n := by rw [Int.min_def]; split <;> split <;> omega
   simp [builtin,Builtin.min_,Builtin.min2,hx,hy,e]
 . have e : (if m < n then n else m) = max m n := by rw [Int.max_def]; split <;> split <;> omega
   simp [builtin,Builtin.max_,Builtin.max2,hx,hy,e]
theorem q_lenS {xs : Array Operand} {t : TypeId} {x : Operand} {b : List UInt8} (ho : o.op = .call { callee := .builtin .len,args := xs,argTypes := #[t] }) (hxs : xs = #[x]) (ht : P.underlying t = some .string) (hx : a.eval x = .string ⟨b.toArray⟩) :
   zdj P F σ hp w o a (.int .i64 b.length) := by
 subst hxs
 refine zj3 ho (v := .int .i64 b.length) (fun cs => ?_) (.imm (.int _ _))
 have e : (⟨b.toArray⟩ : ByteArray).size = b.length := rfl
 simp [builtin,Builtin.len_,zai ht,hx,goInt,e]
theorem q_len {xs : Array Operand} {t e : TypeId} {x : Operand} {A : Option Addr} {n c : Nat} (ho : o.op = .call { callee := .builtin .len,args := xs,argTypes := #[t] }) (hxs : xs = #[x]) (ht : P.underlying t = some (.slice e)) (hx : a.eval x = .slice A n c) :
   zdj P F σ hp w o a (.int .i64 n) := by
 subst hxs
 refine zj3 ho (v := .int .i64 n) (fun cs => ?_) (.imm (.int _ _))
 simp [builtin,Builtin.len_,zai ht,hx,goInt]
theorem q_cap {xs : Array Operand} {t e : TypeId} {x : Operand} {A : Option Addr} {n c : Nat} (ho : o.op = .call { callee := .builtin .cap,args := xs,argTypes := #[t] }) (hxs : xs = #[x]) (ht : P.underlying t = some (.slice e)) (hx : a.eval x = .slice A n c) :
   zdj P F σ hp w o a (.int .i64 c) := by
 subst hxs
 refine zj3 ho (v := .int .i64 c) (fun cs => ?_) (.imm (.int _ _))
 simp [builtin,Builtin.cap_,zai ht,hx,goInt]
theorem q_load [Inhabited Env] (hs : SimH K F σ hp w) {t : TypeId} {sz : Option Nat} {x : Operand} {x' : DA} (ho : o.op = .load t x) (hsz : szOf P t = some sz) (hf : FRep F σ hp w fr a.tmps) (hx : mArg x x' = true)
   (h : (zh sz (za hp (x'.ev fr))).1) : zdj P F σ hp w o a (zh sz (za hp (x'.ev fr))).2 := by
 obtain ⟨u,hu,hr⟩ := yfc (P := P) hs hsz (zz hf hx) h
 exact ⟨u,by simp [execOp,ho,hu],hr⟩
theorem q_field {t : TypeId} {f : Nat} {fs : Array Field} {fl : Field} {sz : Option Nat} {x : Operand} {x' : DA} {cs : List DV} (ho : o.op = .field t x f) (ht : P.underlying t = some (.struct fs)) (hfl : fs[f]? = some fl) (hsz : szOf P fl.type = some sz)
   (hf : FRep F σ hp w fr a.tmps) (hx : mArg x x' = true) (hcs : x'.ev fr = .agg cs) (h : (zh sz (True,cs.drop fl.offset)).1) : zdj P F σ hp w o a (zh sz (True,cs.drop fl.offset)).2 := by
 have hv := zz hf hx
 rw [hcs] at hv
 obtain ⟨vs,e1,hl,hv⟩ := hv.agg_inv
 obtain ⟨u,hu,hr⟩ := z2m (P := P) hsz hl hv fl.offset h
 exact ⟨u,by simp [execOp,ho,Instr.field,zai ht,hfl,e1,asAgg,hu],hr⟩
theorem yf0 {t : TypeId} {f : Nat} {fs : Array Field} {fl : Field} {i : TypeInfo} {x : Operand} {p : Addr} (ho : o.op = .fieldAddr t x f) (ht : P.underlying t = some (.struct fs)) (hfl : fs[f]? = some fl) (hi : P.info? fl.type = some i) (hne : i.size ≠ 0)
   (hx : a.eval x = .pointer (some p)) (hp' : p.spot = none) {d : DV} (hv : VRep F σ hp w d (.pointer (some ⟨p.block,p.off + fl.offset,none⟩))) : zdj P F σ hp w o a d := by
 refine ⟨_,?_,hv⟩
 simp [execOp,ho,Instr.fieldAt,zai ht,hfl,hx,Instr.sureAddr,fieldPlace,sizeOf,typeInfo,hi,hne,zfj hp']
theorem z85 {cs : List DV} {p : Addr} (h : IRep F w (.ref cs) (.pointer (some p))) (n : Nat) : IRep F w (.ref (cs.drop n)) (.pointer (some ⟨p.block,p.off + n,none⟩)) := by
 obtain ⟨b,e,hs,hF,hc⟩ := h.ref_inv
 injection e with e
 injection e with e
 subst e
 refine IRep.ref_mk rfl hF fun j d hd => ?_
 rw [List.getElem?_drop] at hd
 obtain ⟨u,hu,h1⟩ := hc _ _ hd
 exact ⟨u,by simpa [Nat.add_assoc] using hu,h1⟩
theorem ygi {t e : TypeId} {i : TypeInfo} {x y : Operand} {A : Option Addr} {n c : Nat} {k : IntKind} {m : Int} {b : Addr} (ho : o.op = .indexAddr t x y) (ht : P.underlying t = some (.slice e)) (hi : P.info? e = some i)
   (hx : a.eval x = .slice A n c) (hy : a.eval y = .int k m) (hA : A = some b) (hb : b.spot = none) (h0 : 0 <= m) (h1 : m < n) {d : DV}
   (hv : VRep F σ hp w d (.pointer (some ⟨b.block,b.off + m.toNat * i.size,none⟩))) : zdj P F σ hp w o a d := by
 refine ⟨_,?_,hv⟩
 simp [execOp,ho,Instr.indexAt,hx,hy,asIntOf,zai ht,hA,h0,h1,sizeOf,typeInfo,hi,zfj hb]
theorem z8f {t e : TypeId} {i : TypeInfo} {x y : Operand} {n : Nat} {k : IntKind} {m : Int} {b : Addr} (ho : o.op = .indexAddr t x y) (ht : P.underlying t = some (.array n e)) (hi : P.info? e = some i)
   (hx : a.eval x = .pointer (some b)) (hy : a.eval y = .int k m) (hb : b.spot = none) (h0 : 0 <= m) (h1 : m < n) {d : DV}
   (hv : VRep F σ hp w d (.pointer (some ⟨b.block,b.off + m.toNat * i.size,none⟩))) : zdj P F σ hp w o a d := by
 refine ⟨_,?_,hv⟩
 simp [execOp,ho,Instr.indexAt,hx,hy,asIntOf,zai ht,Instr.sureAddr,h0,h1,sizeOf,typeInfo,hi,zfj hb]
theorem q_index {t : TypeId} {x y : Operand} {k : IntKind} {m : Int} {s : List UInt8} (ho : o.op = .index t x y) (ht : P.underlying t = some .string)
   (hx : a.eval x = .string ⟨s.toArray⟩) (hy : a.eval y = .int k m) (h0 : 0 <= m) (h1 : m < s.length) : zdj P F σ hp w o a (.int .u8 (s.getD m.toNat 0).toNat) := by
 have hlt : m.toNat < s.length := by omega
 have e : (⟨s.toArray⟩ : ByteArray)[m.toNat]? = some s[m.toNat] := by
   have hs : m.toNat < (⟨s.toArray⟩ : ByteArray).size := hlt
   exact (getElem?_pos (⟨s.toArray⟩ : ByteArray) m.toNat hs).trans rfl
 refine ⟨_,?_,.imm (.int _ _)⟩
 simp [execOp,ho,Instr.index,hx,hy,asIntOf,zai ht,h0,e,List.getD,hlt]
theorem yes {x : Operand} {x' : DA} {i : Nat} {ds : List DV} (ho : o.op = .extract x i) (hf : FRep F σ hp w fr a.tmps) (hx : mArg x x' = true) (hd : x'.ev fr = .tup ds) (h : i < ds.length) : zdj P F σ hp w o a (ds.getD i .undef) := by
 have hv := zz hf hx
 rw [hd] at hv
 obtain ⟨vs,e1,hl,hv⟩ := hv.tup_inv
 obtain ⟨u,hu,hr⟩ := hv i ds[i] (by simp)
 refine ⟨u,by simp [execOp,ho,Instr.extract,e1,hu],?_⟩
 have : ds.getD i .undef = ds[i] := by simp [List.getD,h]
 rw [this]; exact hr
theorem zz3 {x : Operand} {v : Value} (ho : o.op = .nilCheck x) (hx : a.eval x = v) (hv : (∃ p,v = .pointer (some p)) \/ ∃ f b c,v = .func (.func f) b c) {d : DV} (hr : VRep F σ hp w d v) : zdj P F σ hp w o a d := by
 refine ⟨v,?_,hr⟩
 rcases hv with ⟨p,rfl⟩ | ⟨f,b,c,rfl⟩ <;> simp [execOp,ho,hx]
theorem q_mkfun {f : FuncId} {fst caps : Array Operand} {caps' : List DA} (ho : o.op = .makeFunc (.func f) fst caps) (hfst : fst.size = 0) (hf : FRep F σ hp w fr a.tmps) (hc : zd2 caps.toList caps' = true) :
   zdj P F σ hp w o a (.clo f (caps'.map (·.ev fr))) := by
 obtain ⟨hl,hv⟩ := zu1 hf hc
 have : fst = #[] := Array.eq_empty_of_size_eq_zero hfst
 subst this
 refine ⟨.func (.func f) #[] (caps.map a.eval),by simp [execOp,ho,Instr.makeFunc],VRep.clo_mk (by simpa using hl) fun j d hd => ?_⟩
 obtain ⟨u,hu,hr⟩ := hv j d hd
 exact ⟨u,by simpa using hu,hr⟩
theorem q_pick {c x y : Operand} {c' x' y' : DA} {b : Bool} (ho : o.op = .pick c x y) (hf : FRep F σ hp w fr a.tmps) (hc : mArg c c' = true) (hx : mArg x x' = true) (hy : mArg y y' = true) (hb : c'.ev fr = .bool b) :
   zdj P F σ hp w o a (if b then x'.ev fr else y'.ev fr) := by
 have hv := zz hf hc
 rw [hb] at hv
 have e := hv.bool_inv
 refine ⟨if b then a.eval x else a.eval y,by simp [execOp,ho,e,asBool],?_⟩
 cases b
 . exact zz hf hy
 . exact zz hf hx
end
end Go.Nk
set_option linter.all false
namespace Go.Nk
open Go.RowKit
section
variable {P : Program} {K F : Nat -> Prop} {σ : Nat -> Option Nat} {hp : List DObj} {w : World} {fr : List (Nat × DV)} {a : Act} {o : Oper}
theorem zi0 {k : IntKind} {n : Int} {y : Nat} {code : BoundsCode} (h0 : 0 <= n) (h1 : n <= y) : (Instr.sliceBound (.int k n) y code).run P w = .ok n.toNat w := by
 simp [Instr.sliceBound,asIntOf,h0,h1]
theorem mOpt_rep (hf : FRep F σ hp w fr a.tmps) {x : Option Operand} {d : Option DA} (h : mOpt x d = true) :
   (x = none /\ d = none) \/ ∃ y e,x = some y /\ d = some e /\ VRep F σ hp w (e.ev fr) (a.eval y) := by
 unfold mOpt at h
 split at h
 . exact .inl ⟨rfl,rfl⟩
 . rename_i y e; exact .inr ⟨y,e,rfl,rfl,zz hf h⟩
 . cases h
def z1o (x : Option Value) (d : Option DV) (dflt n : Int) : Prop := (x = none /\ d = none /\ n = dflt) \/ ∃ k e,x = some (.int k n) /\ d = some e
theorem ze1 (hf : FRep F σ hp w fr a.tmps) {x : Option Operand} {d : Option DA} (h : mOpt x d = true) {dflt : Int} (hb : (zbq (d.map (·.ev fr)) dflt).1) :
   z1o (x.map a.eval) (d.map (·.ev fr)) dflt (zbq (d.map (·.ev fr)) dflt).2 := by
 rcases mOpt_rep hf h with ⟨rfl,rfl⟩ | ⟨y,e,rfl,rfl,hv⟩
 . exact .inl ⟨rfl,rfl,rfl⟩
 . simp only [Option.map_some] at hb |-
   generalize e.ev fr = de at *
   cases de <;> simp only [zbq] at hb |-
   case int k n => exact .inr ⟨k,_,by rw [hv.int_inv],rfl⟩
   all_goals exact hb.elim
theorem zts {isS : Bool} {len cap : Nat} {lo hi mx : Option Value} {dl dh dm : Option DV} {l h m : Int} (hlo : z1o lo dl 0 l) (hhi : z1o hi dh len h) (hmx : z1o mx dm h m)
   (hsome : dm.isSome = true -> dh.isSome = true) (h0 : 0 <= l) (h1 : l <= h) (h2 : h <= m) (h3 : m <= cap) :
   ∃ M : Nat,(Instr.sliceBounds isS len cap lo hi mx).run P w = .ok (l.toNat,h.toNat,M) w /\ h.toNat <= M /\ M <= cap := by
 rcases hmx with ⟨rfl,rfl,rfl⟩ | ⟨km,em,rfl,rfl⟩
 . refine ⟨cap,?_,by omega,Nat.le_refl _⟩
   rcases hhi with ⟨rfl,rfl,rfl⟩ | ⟨kh,eh,rfl,rfl⟩
   . rcases hlo with ⟨rfl,rfl,rfl⟩ | ⟨kl,el,rfl,rfl⟩
     . simp [Instr.sliceBounds]
     . simp [Instr.sliceBounds,zi0 h0 h1]
   . rcases hlo with ⟨rfl,rfl,rfl⟩ | ⟨kl,el,rfl,rfl⟩
     . simp [Instr.sliceBounds,zi0 (show 0 <= m by omega) h3]
     . have e : l <= (m.toNat : Int) := by omega
       simp [Instr.sliceBounds,zi0 (show 0 <= m by omega) h3,zi0 h0 e]
 . refine ⟨m.toNat,?_,by omega,by omega⟩
   rcases hhi with ⟨rfl,rfl,rfl⟩ | ⟨kh,eh,rfl,rfl⟩
   . simp at hsome
   . have e1 : h <= (m.toNat : Int) := by omega
     rcases hlo with ⟨rfl,rfl,rfl⟩ | ⟨kl,el,rfl,rfl⟩
     . simp [Instr.sliceBounds,zi0 (show 0 <= m by omega) h3,zi0 (show 0 <= h by omega) e1]
     . have e : l <= (h.toNat : Int) := by omega
       simp [Instr.sliceBounds,zi0 (show 0 <= m by omega) h3,zi0 (show 0 <= h by omega) e1,zi0 h0 e]
theorem yby (s : List UInt8) (l h : Nat) : (⟨s.toArray⟩ : ByteArray).extract l h = ⟨((s.take h).drop l).toArray⟩ := by
 apply ByteArray.ext
 rw [ByteArray.data_extract]
 apply Array.ext'
 simp [List.drop_take]
theorem q_sliceS {t : TypeId} {x : Operand} {x' : DA} {lo hi mx : Option Operand} {lo' hi' : Option DA} (ho : o.op = .slice t x lo hi mx) (ht : P.underlying t = some .string) (hmx : mx = none) (hf : FRep F σ hp w fr a.tmps) (hx : mArg x x' = true)
   (hlo : mOpt lo lo' = true) (hhi : mOpt hi hi' = true) (h : (zqy (x'.ev fr) (lo'.map (·.ev fr)) (hi'.map (·.ev fr))).1) :
   zdj P F σ hp w o a (zqy (x'.ev fr) (lo'.map (·.ev fr)) (hi'.map (·.ev fr))).2 := by
 subst hmx
 have hv := zz hf hx
 generalize x'.ev fr = dx at *
 unfold zqy at h |-
 split at h
 . rename_i s
   obtain ⟨hl,hh,h0,h1,h2⟩ := h
   have e1 := hv.str_inv
   obtain ⟨M,hM,_,_⟩ := zts (P := P) (w := w) (isS := false) (cap := s.length) (ze1 hf hlo hl) (ze1 hf hhi hh) (.inl ⟨rfl,(rfl : (none : Option DV) = none),rfl⟩) (by simp) h0 h1 (Int.le_refl _) h2
   have hsz : (⟨s.toArray⟩ : ByteArray).size = s.length := rfl
   refine ⟨_,?_,.imm (.str _)⟩
   simp only [execOp,ho,Instr.sliceAt,Sem.run_bind,zai ht,Result.andThen_ok,Instr.slice,e1,Option.map_none,Option.isSome_none,Bool.false_eq_true,if_false,hsz]
   rw [hM]
   simp [yby]
 . exact h.elim
theorem q_slice {t e : TypeId} {i : TypeInfo} {x : Operand} {x' : DA} {lo hi mx : Option Operand} {lo' hi' mx' : Option DA} (ho : o.op = .slice t x lo hi mx) (ht : P.underlying t = some (.slice e)) (hinf : P.info? e = some i)
   (hf : FRep F σ hp w fr a.tmps) (hx : mArg x x' = true) (hlo : mOpt lo lo' = true) (hhi : mOpt hi hi' = true) (hmx : mOpt mx mx' = true)
   (h : (zc2 hp i.size (x'.ev fr) (lo'.map (·.ev fr)) (hi'.map (·.ev fr)) (mx'.map (·.ev fr))).1) :
   zdj P F σ hp w o a (zc2 hp i.size (x'.ev fr) (lo'.map (·.ev fr)) (hi'.map (·.ev fr)) (mx'.map (·.ev fr))).2 := by
 have hv := zz hf hx
 have run : ∀ {A : Option Addr} {len cap l h m M : Nat},a.eval x = .slice A len cap -> (Instr.sliceBounds true len cap (lo.map a.eval) (hi.map a.eval) (mx.map a.eval)).run P w = .ok (l,h,M) w ->
     (execOp a.eval o).run P w = .ok (.value (.slice (if M = l then A else A.map (·.add (l * i.size))) (h - l) (M - l))) w := by
   intro A len cap l h m M e1 hb
   simp only [execOp,ho,Instr.sliceAt,Sem.run_bind,zai ht,Result.andThen_ok,Instr.slice,e1]
   rw [hb]
   simp [sizeOf,typeInfo,hinf]
 generalize x'.ev fr = dx at *
 unfold zc2 at h |-
 split at h
 . rename_i es
   dsimp only at h |-
   obtain ⟨hz,hl,hh,hm,hsome,h0,h1,h2,h3⟩ := h
   obtain ⟨A,c,z,e1,hlc,hA,hzz⟩ := hv.sl_inv.sl_inv
   obtain ⟨M,hM,hM1,hM2⟩ := zts (P := P) (w := w) (isS := true) (cap := c) (ze1 hf hlo hl) (ze1 hf hhi hh) (ze1 hf hmx hm) hsome h0 h1 h2 (by omega)
   generalize (zbq (lo'.map (·.ev fr)) 0).2 = l at *
   generalize (zbq (hi'.map (·.ev fr)) (es.length : Int)).2 = hh' at *
   refine ⟨_,run (m := 0) e1 hM,.imm ?_⟩
   have hlen : ((es.take hh'.toNat).drop l.toNat).length = hh'.toNat - l.toNat := by simp; omega
   have hc1 : ((es.take hh'.toNat).drop l.toNat).length <= M - l.toNat := by rw [hlen]; omega
   rw [<- hlen]
   refine IRep.sl_mk (z := z) hc1 (fun i e he => ?_) (fun hne => ?_)
   . rw [List.getElem?_drop,List.getElem?_take] at he
     split at he
     . exact hzz _ _ he
     . cases he
   . have hpos : 0 < hh'.toNat - l.toNat := by rw [<- hlen]; exact List.length_pos_iff.2 hne
     have hes : es ≠ [] := by
       intro e'
       subst e'
       simp at hne
     obtain ⟨b,rfl,hb1,hb2,hb3⟩ := hA hes
     have hzi : z = i.size := by
       obtain ⟨e0,he0⟩ := List.exists_mem_of_ne_nil es hes
       obtain ⟨k0,hk0,rfl⟩ := List.getElem_of_mem he0
       rw [<- hzz k0 _ (List.getElem?_eq_getElem hk0)]; exact hz _ he0
     rw [if_neg (by omega)]
     have hadd := zfj hb1 (l.toNat * i.size)
     refine ⟨_,rfl,by dsimp only; rw [hadd],by dsimp only; rw [hadd]; exact hb2,fun j k d hd => ?_⟩
     have hd' : z1 es (l.toNat + j) k = some d := by
       unfold z1 at hd |-
       rw [List.getElem?_drop,List.getElem?_take] at hd
       split at hd
       . exact hd
       . simp at hd
     obtain ⟨u,hu,h1'⟩ := hb3 _ _ _ hd'
     refine ⟨u,?_,h1'⟩
     dsimp only
     rw [hadd,<- hzi,<- hu]
     congr 2
     dsimp only
     rw [Nat.add_mul]; omega
 . rename_i h' L off len
   dsimp only at h |-
   obtain ⟨hl,hh,hm,hsome,h0,h1,h2,h3,hob⟩ := h
   obtain ⟨hlt,hov⟩ := hv.own_inv
   cases hhp : hp[h']? with
   | none => simp [hhp] at hob
   | some ob =>
     simp only [hhp] at hob
     obtain ⟨hk,hz,hL⟩ := hob
     obtain ⟨A,cap,e1,hle,hA⟩ := (hov ob hhp).2 hk hL
     obtain ⟨M,hM,hM1,hM2⟩ := zts (P := P) (w := w) (isS := true) (cap := cap) (ze1 hf hlo hl) (ze1 hf hhi hh) (ze1 hf hmx hm) hsome h0 h1 h2 (by omega)
     refine ⟨_,run (m := 0) e1 hM,.own _ _ _ _ _ rfl hlt fun o' ho' => ?_⟩
     rw [hhp] at ho'; injection ho' with ho'; subst ho'
     refine ⟨by omega,fun _ _ => ⟨_,_,rfl,by omega,?_⟩⟩
     rcases hA with hA | ⟨g,hg,rfl,hcap⟩
     . left; omega
     . by_cases hMl : M = (zbq (lo'.map (·.ev fr)) 0).2.toNat
       . left; omega
       . right
         refine ⟨g,hg,?_,?_⟩
         . rw [if_neg hMl,<- hz]
           simp [zfj,Nat.add_mul]
         . refine Nat.le_trans (Nat.mul_le_mul_right _ ?_) hcap
           omega
 . obtain ⟨hl,hh,hm,hsome,h0,h1,h2⟩ := h
   have e1 := hv.nil_inv
   obtain ⟨M,hM,hM1,hM2⟩ := zts (P := P) (w := w) (isS := true) (len := 0) (cap := 0) (ze1 hf hlo hl) (ze1 hf hhi hh) (h := (zbq (hi'.map (·.ev fr)) 0).2) (m := (zbq (mx'.map (·.ev fr)) 0).2)
     (by rw [h1]; exact ze1 hf hmx hm) hsome (by omega) (by omega) (by omega) (by omega)
   refine ⟨_,run (m := 0) e1 hM,?_⟩
   rw [h0,h1]
   have : M = 0 := by omega
   subst this
   simp
   exact .imm .nil
 . exact h.elim
theorem q_b2s {s t e : TypeId} {x : Operand} {A : Option Addr} {c : Nat} {es : List (List DV)} (ho : o.op = .convert s t x) (hs : P.underlying s = some (.slice e)) (he : P.underlying e = some (.int .u8)) (ht : P.underlying t = some .string)
   (hx : a.eval x = .slice A es.length c) (hb : ∀ e ∈ es,∃ n,e = [.int .u8 n]) (hA : es ≠ [] -> ∃ b,A = some b /\ b.spot = none /\ ∀ i j d,z1 es i j = some d -> ∃ u,w.cell? ⟨b.block,b.off + (i * 1 + j),none⟩ = some u /\ IRep F w d u) (hsp : ∀ b,A = some b -> es = [] -> True) :
   zdj P F σ hp w o a (.str (es.map fun e => match e with | [.int _ n] => UInt8.ofNat n.toNat | _ => 0)) := by
 refine ⟨_,?_,.imm (.str _)⟩
 have key : (convert s t (.slice A es.length c)).run P w = .ok (.string ⟨(es.map fun e => match e with | [.int _ n] => UInt8.ofNat n.toNat | _ => 0).toArray⟩) w := by
   by_cases hne : es = []
   . subst hne
     cases A with
     | none => rw [run_convert_bytes_nil w s e hs he _ _ t ht]; rfl
     | some b =>
       rw [run_convert_bytes_string w s t e _ _ _ hs he ht]
       exact run_bytesToString w b 0 c [] (by simp [loadCells,loadCellsFrom])
   . obtain ⟨b,rfl,hb1,hc⟩ := hA hne
     let f : List DV -> Int := fun e => match e with | [.int _ n] => n | _ => 0
     have hcell := run_convert_bytes_arg (P := P) w s e hs he b.block b.off es.length c (es.map f) (by simp) (fun i hi => by
       obtain ⟨n,hn⟩ := hb es[i] (by simp)
       obtain ⟨u,hu,hr⟩ := hc i 0 (.int .u8 n) (by simp [z1,hi,hn])
       cases hr
       simp only [Nat.mul_one,Nat.add_zero] at hu
       rw [hu]
       simp [List.getD,hi,hn,f]) t ht
     have hbb : (⟨b.block,b.off,none⟩ : Addr) = b := by cases b; simp at hb1; subst hb1; rfl
     rw [hbb] at hcell
     rw [hcell]
     congr 2
     apply ByteArray.ext
     apply Array.ext'
     rw [strOfNums_data]
     simp only [List.map_map]
     refine List.map_congr_left fun e he => ?_
     obtain ⟨n,rfl⟩ := hb e he
     rfl
 simp only [execOp,ho,hx,Sem.run_bind,key,Result.andThen_ok]
 rfl
end
end Go.Nk
set_option linter.all false
namespace Go.Nk
open Go.RowKit
section
variable {P : Program} {K F F' : Nat -> Prop} {σ σ' : Nat -> Option Nat} {hp hp' : List DObj} {w w' : World}
theorem Blk.lt {g z : Nat} {es : List (List DV)} {R : DV -> Value -> Prop} (h : Blk w g z es R) : g < w.heap.size := by
 obtain ⟨c,ty,hh,_⟩ := h
 rcases Nat.lt_or_ge g w.heap.size with h' | h'
 . exact h'
 . rw [Array.getElem?_eq_none h'] at hh; cases hh
theorem ygh {w w' : World} {g : Nat} (h : w'.heap[g]? = w.heap[g]?) : bsz w' g = bsz w g := by unfold bsz; rw [h]
theorem SimH.blk_lt [Inhabited Env] (hs : SimH K F σ hp w) {h : Nat} {o : DObj} (ho : hp[h]? = some o) (hd : o.k ≠ .dead) {g : Nat} (hg : σ h = some g) : g < w.heap.size := by
 have := hs.obj h o ho
 unfold ORep at this
 split at this
 . exact absurd (by assumption) hd
 . rcases this with ⟨_,h0⟩ | ⟨g',hg',_,_,hb⟩
   . rw [hg] at h0; cases h0
   . rw [hg] at hg'; injection hg' with e; subst e; exact hb.lt
 . rcases this with ⟨_,h0⟩ | ⟨g',hg',_,hb⟩
   . rw [hg] at h0; cases h0
   . rw [hg] at hg'; injection hg' with e; subst e; exact hb.lt
 . obtain ⟨g',hg',_,_,hb⟩ := this
   rw [hg] at hg'; injection hg' with e; subst e; exact hb.lt
 . obtain ⟨_,g',hg',_,_,hb⟩ := this
   rw [hg] at hg'; injection hg' with e; subst e; exact hb.lt
theorem SimH.mut_nF [Inhabited Env] (hs : SimH K F σ hp w) {h : Nat} {o : DObj} (ho : hp[h]? = some o) (hd : o.k.mut) {g : Nat} (hg : σ h = some g) : ¬ F g /\ ¬ K g := by
 have := hs.obj h o ho
 unfold ORep at this
 rcases hd with hd | hd | ⟨es,hd⟩ <;> rw [hd] at this <;> dsimp only at this
 . rcases this with ⟨_,h0⟩ | ⟨g',hg',h1,h2,hb⟩
   . rw [hg] at h0; cases h0
   . rw [hg] at hg'; injection hg' with e; subst e; exact ⟨h1,h2⟩
 . obtain ⟨g',hg',h1,h2,hb⟩ := this
   rw [hg] at hg'; injection hg' with e; subst e; exact ⟨h1,h2⟩
 . obtain ⟨_,g',hg',h1,h2,hb⟩ := this
   rw [hg] at hg'; injection hg' with e; subst e; exact ⟨h1,h2⟩
theorem SimH.frz_F [Inhabited Env] (hs : SimH K F σ hp w) {h : Nat} {o : DObj} (ho : hp[h]? = some o) (hd : o.k = .frz) {g : Nat} (hg : σ h = some g) : F g := by
 have := hs.obj h o ho
 unfold ORep at this
 rw [hd] at this; dsimp only at this
 rcases this with ⟨_,h0⟩ | ⟨g',hg',h1,hb⟩
 . rw [hg] at h0; cases h0
 . rw [hg] at hg'; injection hg' with e; subst e; exact h1
theorem mut_or (k : Kd) (hd : k ≠ .dead) (hm : ¬ k.mut) : k = .frz := by
 cases k
 . exact absurd (.inl rfl) hm
 . exact absurd (.inr (.inl rfl)) hm
 . rfl
 . exact absurd rfl hd
 . exact absurd (.inr (.inr ⟨_,rfl⟩)) hm
theorem zl7 {k : Kd} (h : k = .loc) : k.mut := .inr (.inl h)
theorem z8a {k : Kd} (h : k.mut) : k ≠ .dead := by rcases h with e | e | ⟨_,e⟩ <;> rw [e] <;> simp
structure Chg (K F : Nat -> Prop) (σ : Nat -> Option Nat) (hp : List DObj) (w : World) (h : Nat) (o : DObj) (F' : Nat -> Prop) (σ' : Nat -> Option Nat) (hp' : List DObj) (w' : World) : Prop where
 os : w'.os = w.os
 tape : w'.tape = w.tape
 output : w'.output = w.output
 size : w.heap.size <= w'.heap.size
 hF : ∀ b,F b -> F' b
 newF : ∀ b,F' b -> F b \/ w.heap.size <= b
 ltF : ∀ b,F' b -> b < w'.heap.size
 heap : ∀ b,b < w.heap.size -> (∀ oh,hp[h]? = some oh -> oh.k.mut -> σ h ≠ some b) -> w'.heap[b]? = w.heap[b]?
 hps : (h < hp.length /\ hp' = hp.set h o) \/ (h = hp.length /\ hp' = hp ++ [o])
 sig : ∀ h',h' ≠ h -> σ' h' = σ h'
 newg : ∀ g,σ' h = some g -> (σ h = some g /\ ∃ oh,hp[h]? = some oh /\ oh.k.mut) \/ w.heap.size <= g
 grow : ∀ oh,hp[h]? = some oh -> (oh.k.mut \/ (oh.es = [] /\ o.es ≠ [])) /\ oh.es.length <= o.es.length /\ (o.es.length = oh.es.length -> o.k ≠ .dead -> o.z = oh.z /\ σ' h = σ h /\ ∀ g,σ h = some g -> bsz w' g = bsz w g)
theorem Chg.get {h : Nat} {o : DObj} (c : Chg K F σ hp w h o F' σ' hp' w') : hp'[h]? = some o := by
 rcases c.hps with ⟨hl,rfl⟩ | ⟨rfl,rfl⟩
 . simp [hl]
 . simp
theorem Chg.getO {h : Nat} {o : DObj} (c : Chg K F σ hp w h o F' σ' hp' w') {h' : Nat} (hne : h' ≠ h) : hp'[h']? = hp[h']? := by
 rcases c.hps with ⟨hl,rfl⟩ | ⟨rfl,rfl⟩
 . rw [List.getElem?_set_ne (Ne.symm hne)]
 . rcases Nat.lt_or_ge h' hp.length with h1 | h1
   . rw [List.getElem?_append_left h1]
   . rw [List.getElem?_eq_none h1,List.getElem?_eq_none (by simp; omega)]
theorem Chg.keep [Inhabited Env] {h : Nat} {o : DObj} (c : Chg K F σ hp w h o F' σ' hp' w') (hs : SimH K F σ hp w) {b : Nat} (hb : F b \/ K b) : w'.heap[b]? = w.heap[b]? := by
 refine c.heap b (hb.elim (hs.fb b) (hs.kb b)) fun oh hoh hm e => ?_
 obtain ⟨h1,h2⟩ := hs.mut_nF hoh hm e
 exact hb.elim h1 h2
theorem Chg.keepO [Inhabited Env] {h : Nat} {o : DObj} (c : Chg K F σ hp w h o F' σ' hp' w') (hs : SimH K F σ hp w) {h' : Nat} {o' : DObj} (hne : h' ≠ h) (ho' : hp[h']? = some o') (hd : o'.k ≠ .dead) {g : Nat} (hg : σ h' = some g) :
   w'.heap[g]? = w.heap[g]? := by
 by_cases hm : o'.k.mut
 . exact c.heap g (hs.blk_lt ho' hd hg) fun oh hoh hmh e => hne (hs.inj _ _ _ _ _ ho' hm hoh hmh hg e)
 . exact c.keep hs (.inl (hs.frz_F ho' (mut_or _ hd hm) hg))
theorem Chg.hm [Inhabited Env] {h : Nat} {o : DObj} (c : Chg K F σ hp w h o F' σ' hp' w') (hs : SimH K F σ hp w) : HM F σ hp w F' σ' hp' w' := by
 refine ⟨c.hF,fun b hb => c.keep hs (.inl hb),?_,fun h' o' ho' => ?_⟩
 . rcases c.hps with ⟨hl,rfl⟩ | ⟨rfl,rfl⟩ <;> simp
 . by_cases hne : h' = h
   . subst hne
     obtain ⟨hm,g1,g2⟩ := c.grow o' ho'
     refine ⟨o,c.get,g1,fun hd he => ⟨?_,g2 he hd⟩⟩
     rcases hm with e | ⟨e1,e2⟩
     . exact z8a e
     . rw [e1] at he; exact absurd (List.eq_nil_of_length_eq_zero he) e2
   . refine ⟨o',(c.getO hne).trans ho',Nat.le_refl _,fun hd _ => ⟨hd,rfl,c.sig _ hne,fun g hg => ygh (c.keepO hs hne ho' hd hg)⟩⟩
theorem Chg.sim [Inhabited Env] {h : Nat} {o : DObj} (c : Chg K F σ hp w h o F' σ' hp' w') (hs : SimH K F σ hp w) (ho : ORep K F' σ' hp' w' h o) : SimH K F' σ' hp' w' := by
 have hm := c.hm hs
 refine ⟨fun h' o' ho' => ?_,fun h1 h2 o1 o2 g e1 m1 e2 m2 s1 s2 => ?_,c.ltF,fun b hb => Nat.lt_of_lt_of_le (hs.kb b hb) c.size,hs.tab.mono hm.keepF hm.mono⟩
 . by_cases hne : h' = h
   . subst hne
     rw [c.get] at ho'; injection ho' with ho'; subst ho'; exact ho
   . rw [c.getO hne] at ho'
     have old := hs.obj _ _ ho'
     have hk := fun (hd : o'.k ≠ .dead) (g : Nat) (hg : σ h' = some g) => c.keepO hs hne ho' hd hg
     have nF : ∀ g,g < w.heap.size -> ¬ F g -> ¬ F' g := fun g hl hn hF => (c.newF g hF).elim hn (fun h => by omega)
     unfold ORep at old |-
     split
     . trivial
     . rename_i hkk
       rw [hkk] at old; dsimp only at old
       rcases old with ⟨h0,h1⟩ | ⟨g,hg,h1,h2,hb⟩
       . exact .inl ⟨h0,(c.sig _ hne).trans h1⟩
       . exact .inr ⟨g,(c.sig _ hne).trans hg,nF g hb.lt h1,h2,hb.mono (hk (by rw [hkk]; simp) g hg) fun d v h => ⟨h.1.mono hm.mono hm.keepF,h.2⟩⟩
     . rename_i hkk
       rw [hkk] at old; dsimp only at old
       rcases old with ⟨h0,h1⟩ | ⟨g,hg,h1,hb⟩
       . exact .inl ⟨h0,(c.sig _ hne).trans h1⟩
       . exact .inr ⟨g,(c.sig _ hne).trans hg,c.hF _ h1,hb.mono (hk (by rw [hkk]; simp) g hg) fun d v h => ⟨h.1.mono hm.mono hm.keepF,h.2⟩⟩
     . rename_i hkk
       rw [hkk] at old; dsimp only at old
       obtain ⟨g,hg,h1,h2,hb⟩ := old
       exact ⟨g,(c.sig _ hne).trans hg,nF g hb.lt h1,h2,hb.mono (hk (by rw [hkk]; simp) g hg) fun d v h => h.mono hm⟩
     . rename_i hkk
       rw [hkk] at old; dsimp only at old
       obtain ⟨h0,g,hg,h1,h2,hb⟩ := old
       exact ⟨h0,g,(c.sig _ hne).trans hg,nF g hb.lt h1,h2,hb.mono (hk (by rw [hkk]; simp) g hg) fun d v h => ⟨h.1.mono hm.mono hm.keepF,h.2⟩⟩
 . by_cases n1 : h1 = h
   . by_cases n2 : h2 = h
     . rw [n1,n2]
     . exfalso
       subst n1
       rw [c.getO n2] at e2
       rw [c.sig _ n2] at s2
       have hl2 := hs.blk_lt e2 (z8a m2) s2
       rcases c.newg g s1 with ⟨sg,oh,hoh,hmh⟩ | hge
       . exact n2 (hs.inj _ _ _ _ _ e2 m2 hoh hmh s2 sg)
       . omega
   . by_cases n2 : h2 = h
     . exfalso
       subst n2
       rw [c.getO n1] at e1
       rw [c.sig _ n1] at s1
       have hl1 := hs.blk_lt e1 (z8a m1) s1
       rcases c.newg g s2 with ⟨sg,oh,hoh,hmh⟩ | hge
       . exact n1 (hs.inj _ _ _ _ _ e1 m1 hoh hmh s1 sg)
       . omega
     . rw [c.getO n1] at e1
       rw [c.getO n2] at e2
       rw [c.sig _ n1] at s1
       rw [c.sig _ n2] at s2
       exact hs.inj _ _ _ _ _ e1 m1 e2 m2 s1 s2
theorem Chg.moves [Inhabited Env] {h : Nat} {o : DObj} (c : Chg K F σ hp w h o F' σ' hp' w') (hs : SimH K F σ hp w) : Moves K F w F' w' :=
 ⟨c.os,c.tape,c.output,c.size,fun b hb => c.keep hs (.inr hb),fun b hb => c.keep hs (.inl hb),c.hF,fun b hb => (c.newF b hb).imp id fun h hk => by have := hs.kb b hk; omega⟩
theorem SimH.ext [Inhabited Env] (hs : SimH K F σ hp w) (os : w'.os = w.os) (tape : w'.tape = w.tape) (output : w'.output = w.output) (size : w.heap.size <= w'.heap.size) (heap : ∀ b,b < w.heap.size -> w'.heap[b]? = w.heap[b]?)
   (hF : ∀ b,F b -> F' b) (newF : ∀ b,F' b -> F b \/ w.heap.size <= b) (ltF : ∀ b,F' b -> b < w'.heap.size) :
   SimH K F' σ hp w' /\ Moves K F w F' w' /\ HM F σ hp w F' σ hp w' := by
 have hm : HM F σ hp w F' σ hp w' := ⟨hF,fun b hb => heap b (hs.fb b hb),Nat.le_refl _,fun h o ho => ⟨o,ho,Nat.le_refl _,fun hd _ => ⟨hd,rfl,rfl,fun g hg => ygh (heap g (hs.blk_lt ho hd hg))⟩⟩⟩
 refine ⟨⟨fun h o ho => ?_,hs.inj,ltF,fun b hb => Nat.lt_of_lt_of_le (hs.kb b hb) size,hs.tab.mono hm.keepF hm.mono⟩,⟨os,tape,output,size,fun b hb => heap b (hs.kb b hb),fun b hb => heap b (hs.fb b hb),hF,fun b hb => (newF b hb).imp id fun h hk => by have := hs.kb b hk; omega⟩,hm⟩
 have old := hs.obj _ _ ho
 have nF : ∀ g,g < w.heap.size -> ¬ F g -> ¬ F' g := fun g hl hn hF => (newF g hF).elim hn (fun h => by omega)
 unfold ORep at old |-
 split
 . trivial
 . rename_i hkk
   rw [hkk] at old; dsimp only at old
   rcases old with ⟨h0,h1⟩ | ⟨g,hg,h1,h2,hb⟩
   . exact .inl ⟨h0,h1⟩
   . exact .inr ⟨g,hg,nF g hb.lt h1,h2,hb.mono (heap g hb.lt) fun d v h => ⟨h.1.mono hm.mono hm.keepF,h.2⟩⟩
 . rename_i hkk
   rw [hkk] at old; dsimp only at old
   rcases old with ⟨h0,h1⟩ | ⟨g,hg,h1,hb⟩
   . exact .inl ⟨h0,h1⟩
   . exact .inr ⟨g,hg,hF _ h1,hb.mono (heap g hb.lt) fun d v h => ⟨h.1.mono hm.mono hm.keepF,h.2⟩⟩
 . rename_i hkk
   rw [hkk] at old; dsimp only at old
   obtain ⟨g,hg,h1,h2,hb⟩ := old
   exact ⟨g,hg,nF g hb.lt h1,h2,hb.mono (heap g hb.lt) fun d v h => h.mono hm⟩
 . rename_i hkk
   rw [hkk] at old; dsimp only at old
   obtain ⟨h0,g,hg,h1,h2,hb⟩ := old
   exact ⟨h0,g,hg,nF g hb.lt h1,h2,hb.mono (heap g hb.lt) fun d v h => ⟨h.1.mono hm.mono hm.keepF,h.2⟩⟩
theorem SimH.freeze [Inhabited Env] (hs : SimH K F σ hp w) {h : Nat} {o : DObj} (ho : hp[h]? = some o) (hk : o.k = .imm) :
   SimH K (fun b => F b \/ σ h = some b) σ (hp.set h { o with k := .frz }) w /\ Moves K F w (fun b => F b \/ σ h = some b) w /\ HM F σ hp w (fun b => F b \/ σ h = some b) σ (hp.set h { o with k := .frz }) w := by
 have hl : h < hp.length := by
   rcases Nat.lt_or_ge h hp.length with h' | h'
   . exact h'
   . rw [List.getElem?_eq_none h'] at ho; cases ho
 have hkd : o.k ≠ .dead := by rw [hk]; simp
 have hgetO : ∀ h',h' ≠ h -> (hp.set h { o with k := .frz })[h']? = hp[h']? := fun h' hne => by rw [List.getElem?_set_ne (Ne.symm hne)]
 have hm : HM F σ hp w (fun b => F b \/ σ h = some b) σ (hp.set h { o with k := .frz }) w := by
   refine ⟨fun b hb => .inl hb,fun b hb => rfl,by simp,fun h' o' ho' => ?_⟩
   by_cases hne : h' = h
   . subst hne
     rw [ho] at ho'; injection ho' with e; subst e
     exact ⟨{ o with k := .frz },by simp [hl],Nat.le_refl _,fun _ _ => ⟨hkd,rfl,rfl,fun _ _ => rfl⟩⟩
   . exact ⟨o',(hgetO _ hne).trans ho',Nat.le_refl _,fun hd _ => ⟨hd,rfl,rfl,fun _ _ => rfl⟩⟩
 refine ⟨⟨fun h' o' ho' => ?_,fun h1 h2 o1 o2 g e1 m1 e2 m2 s1 s2 => ?_,fun b hb => hb.elim (hs.fb b) fun e => hs.blk_lt ho hkd e,hs.kb,hs.tab.mono hm.keepF hm.mono⟩,⟨rfl,rfl,rfl,Nat.le_refl _,fun _ _ => rfl,fun _ _ => rfl,fun b hb => .inl hb,fun b hb => hb.imp id fun e => (hs.mut_nF ho (.inl hk) e).2⟩,hm⟩
 . by_cases hne : h' = h
   . subst hne
     have e : o' = { o with k := .frz } := by simpa [hl] using ho'.symm
     subst e
     have old := hs.obj _ _ ho
     unfold ORep at old |-
     rw [hk] at old; dsimp only at old |-
     rcases old with h0 | ⟨g,hg,h1,h2,hb⟩
     . exact .inl h0
     . exact .inr ⟨g,hg,.inr hg,hb.mono rfl fun d v h => ⟨h.1.mono hm.mono hm.keepF,h.2⟩⟩
   . rw [hgetO _ hne] at ho'
     have old := hs.obj _ _ ho'
     have nF : ∀ (hm' : o'.k.mut) (g : Nat),σ h' = some g -> ¬ F g -> ¬ (F g \/ σ h = some g) := fun hm' g hg hn hF => hF.elim hn fun e => hne (hs.inj _ _ _ _ _ ho' hm' ho (.inl hk) hg e)
     unfold ORep at old |-
     split
     . trivial
     . rename_i hkk
       rw [hkk] at old; dsimp only at old
       rcases old with ⟨h0,h1⟩ | ⟨g,hg,h1,h2,hb⟩
       . exact .inl ⟨h0,h1⟩
       . exact .inr ⟨g,hg,nF (.inl hkk) g hg h1,h2,hb.mono rfl fun d v h => ⟨h.1.mono hm.mono hm.keepF,h.2⟩⟩
     . rename_i hkk
       rw [hkk] at old; dsimp only at old
       rcases old with ⟨h0,h1⟩ | ⟨g,hg,h1,hb⟩
       . exact .inl ⟨h0,h1⟩
       . exact .inr ⟨g,hg,.inl h1,hb.mono rfl fun d v h => ⟨h.1.mono hm.mono hm.keepF,h.2⟩⟩
     . rename_i hkk
       rw [hkk] at old; dsimp only at old
       obtain ⟨g,hg,h1,h2,hb⟩ := old
       exact ⟨g,hg,nF (.inr (.inl hkk)) g hg h1,h2,hb.mono rfl fun d v h => h.mono hm⟩
     . rename_i hkk
       rw [hkk] at old; dsimp only at old
       obtain ⟨h0,g,hg,h1,h2,hb⟩ := old
       exact ⟨h0,g,hg,nF (.inr (.inr ⟨_,hkk⟩)) g hg h1,h2,hb.mono rfl fun d v h => ⟨h.1.mono hm.mono hm.keepF,h.2⟩⟩
 . have frz : ∀ hh oo,(hp.set h { o with k := .frz })[hh]? = some oo -> oo.k.mut -> hh ≠ h := by
     intro hh oo e m ee
     subst ee
     have : oo = { o with k := .frz } := by simpa [hl] using e.symm
     subst this
     rcases m with m | m | ⟨_,m⟩ <;> cases m
   have n1 := frz _ _ e1 m1
   have n2 := frz _ _ e2 m2
   rw [hgetO _ n1] at e1
   rw [hgetO _ n2] at e2
   exact hs.inj _ _ _ _ _ e1 m1 e2 m2 s1 s2
end
end Go.Nk

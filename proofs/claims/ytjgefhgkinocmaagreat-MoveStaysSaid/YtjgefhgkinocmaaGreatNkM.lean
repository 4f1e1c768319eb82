/- When a data-level code is the reading of a code of the program: a check that the kernel reckons. -/
import Derived.Test.YtjgefhgkinocmaaGreatNkB
set_option linter.all false
namespace Go.Nk
open Go.RowKit

def cMatch1 : Value → DV → Bool
  | .int k n, .int k' n' => decide (k = k') && decide (n = n')
  | .bool a, .bool b => a == b
  | .string s, .str l => s.data.toList == l
  | .slice none 0 0, .nil => true
  | .slice none 0 0, .sl [] => true
  | .pointer none, .nilp => true
  | _, _ => false

def cMatchL : List Value → List DV → Bool
  | [], [] => true
  | v :: vs, d :: ds => cMatch1 v d && cMatchL vs ds
  | _, _ => false

def cMatch : Value → DV → Bool
  | .agg vs, .agg ds => cMatchL vs.toList ds
  | .tuple vs, .tup ds => cMatchL vs.toList ds
  | _, .undef => true
  | v, d => cMatch1 v d

def mArg : Operand → DA → Bool
  | .tmp t, .t n => t == n
  | .const v, .c d => cMatch v d
  | .func f, .c (.clo g []) => f == g
  | _, .c .undef => true
  | _, _ => false

def mArgs : List Operand → List DA → Bool
  | [], [] => true
  | x :: xs, d :: ds => mArg x d && mArgs xs ds
  | _, _ => false

def mOpt : Option Operand → Option DA → Bool
  | none, none => true
  | some x, some d => mArg x d
  | _, _ => false

def isInt (k : IntKind) : Option TypeDesc → Bool
  | some (.int k') => decide (k = k')
  | _ => false

def isStr : Option TypeDesc → Bool
  | some .string => true
  | _ => false

theorem isInt_eq {k : IntKind} {d : Option TypeDesc} (h : isInt k d = true) : d = some (.int k) := by
  unfold isInt at h
  split at h
  · simp at h; subst h; rfl
  · cases h

theorem isStr_eq {d : Option TypeDesc} (h : isStr d = true) : d = some .string := by
  unfold isStr at h
  split at h
  · rfl
  · cases h

def szOf (P : Program) (t : TypeId) : Option (Option Nat) :=
  match P.underlying t, P.info? t with
  | some (.struct _), some i => some (some i.size)
  | some (.array _ _), some i => some (some i.size)
  | some _, some _ => some none
  | _, _ => none

/-- The zero cells of a type: what they are, how many. -/
def zeroOk (P : Program) (e : TypeId) (zero : List DV) : Bool :=
  match P.info? e with
  | some i => match i.zero with
    | some z => cMatchL z.cells.toList zero && i.size == zero.length && decide (0 < i.size) && decide (i.bytes ≤ 32768) && decide (lenCap zero * i.bytes ≤ 281474976710656)
    | none => false
  | none => false

def elemOk (P : Program) (t : TypeId) (z : Nat) : Option TypeId :=
  match P.underlying t with
  | some (.slice e) => match P.info? e with
    | some i => match i.zero with
      | some zv => if i.size = z ∧ 0 < z ∧ i.bytes ≤ 32768 ∧ zv.cells.size = z then some e else none
      | none => none
    | none => none
  | _ => none

def mParts : Nat → List (Nat × Operand) → List (Option DA) → Bool
  | _, [], [] => true
  | i, ps, none :: r => mParts (i + 1) ps r
  | i, (j, x) :: ps, some y :: r => j == i && mArg x y && mParts (i + 1) ps r
  | _, _, _ => false

def mBuild (place : Nat → Option (Nat × Nat)) : List (Nat × Operand) → List (Nat × Nat × DA) → Bool
  | [], [] => true
  | (i, x) :: ps, (off, n, y) :: r => decide (place i = some (off, n)) && mArg x y && mBuild place ps r
  | _, _ => false

def scalarAt (P : Program) (t : TypeId) (k : Nat) : Bool :=
  match P.underlying t with
  | some (.int _) => k == 0
  | some .bool => k == 1
  | some .string => k == 2
  | _ => false

/-- A struct of scalars, a cell each, one behind the other, and of structs that a check of their own lets pass. -/
def scalarsFrom (P : Program) (nest : TypeId → List Nat → Bool) : Nat → List Field → List Nat → Bool
  | _, [], ks => ks.isEmpty
  | k, f :: r, ks =>
    f.offset == k && f.name != "_" &&
    (match szOf P f.type with
     | some none => (match ks with | n :: ns => scalarAt P f.type n && scalarsFrom P nest (k + 1) r ns | [] => false)
     | some (some n) => decide (n ≤ ks.length) && nest f.type (ks.take n) && scalarsFrom P nest (k + n) r (ks.drop n)
     | none => false)

/-- A struct of scalars alone. -/
def nest1 (P : Program) (t : TypeId) (ks : List Nat) : Bool :=
  match P.underlying t with
  | some (.struct fs) => scalarsFrom P (fun _ _ => false) 0 fs.toList ks && !P.stoodInHeld t
  | _ => false

def structEqOk (P : Program) (t : TypeId) (ks : List Nat) : Bool :=
  match P.underlying t with
  | some (.struct fs) => scalarsFrom P (nest1 P) 0 fs.toList ks && !P.stoodInHeld t && !P.eqGuardType P.depth t
  | _ => false

def isEq (neg : Bool) (op : BinOp) : Bool := if neg then decide (op = .neq) else decide (op = .eql)

inductive At where
  | load | store | add | cas
def atName : At → IntKind → Option String
  | .load, .i64 => some "sync/atomic.LoadInt64"
  | .store, .i64 => some "sync/atomic.StoreInt64"
  | .add, .i64 => some "sync/atomic.AddInt64"
  | .load, .u32 => some "sync/atomic.LoadUint32"
  | .store, .u32 => some "sync/atomic.StoreUint32"
  | .add, .i32 => some "sync/atomic.AddInt32"
  | .cas, .i32 => some "sync/atomic.CompareAndSwapInt32"
  | _, _ => none
/-- A function of sync/atomic's own, without a body. -/
def atOk (P : Program) (f : FuncId) (x : At) (k : IntKind) : Bool :=
  match P.funcs[f]?, atName x k with
  | some fn, some n => fn.name == n && fn.origin == "" && fn.body.isNone
  | _, _ => false

def mOp (P : Program) (o : Op) (d : DOp) : Bool :=
  match o, d with
  | .move x, .mv y | .assign x, .mv y => mArg x y
  | .move x, .mvf y | .assign x, .mvf y => mArg x y
  | .move x, .mvd y | .assign x, .mvd y => mArg x y
  | .move x, .mkown _ y | .assign x, .mkown _ y => mArg x y
  | .call { callee := .builtin .cap, args := xs, argTypes := ts }, .capn y => mArgs xs.toList [y] && (match ts.toList with
      | [t] => match P.underlying t with | some (.slice _) => true | _ => false
      | _ => false)
  | .pick c a b, .pick c' a' b' => mArg c c' && mArg a a' && mArg b b'
  | .binOp op _ x y _, .bin op' x' y' => decide (op = op') && mArg x x' && mArg y y'
  | .binOp op t x y _, .beq n x' y' => isEq n op && mArg x x' && mArg y y' && (match P.underlying t with | some .bool => true | _ => false)
  | .binOp op t x y _, .peq n x' y' => isEq n op && mArg x x' && mArg y y' && (match P.underlying t with | some (.pointer _) => true | _ => false)
  | .binOp op t x y _, .aeq n m x' y' => isEq n op && mArg x x' && mArg y y' && structEqOk P t m
  | .binOp op t x (.const (.slice none 0 0)) _, .snil n x' => isEq n op && mArg x x' && (match P.underlying t with | some (.slice _) => true | _ => false)
  | .unOp op _ x, .un op' x' => decide (op = op') && mArg x x'
  | .convert s t x, .conv k y => mArg x y && (P.underlying s).isSome && isInt k (P.underlying t)
  | .convert s t x, .s2b y => mArg x y && (P.underlying s).isSome && (match P.underlying t with
      | some (.slice e) => isInt .u8 (P.underlying e)
      | _ => false)
  | .convert s t x, .b2s y => mArg x y && isStr (P.underlying t) && (match P.underlying s with
      | some (.slice e) => isInt .u8 (P.underlying e)
      | _ => false)
  | .convert s t x, .mark y => mArg x y && s == t && (match P.underlying t with
      | some (.slice e) => isInt .u8 (P.underlying e)
      | _ => false)
  | .slice t x none (some hi) none, .slA n y k => mArg x y && mArg hi k && (match P.underlying t with
      | some (.array m e) => m == n && (match P.info? e with | some i => i.size == 1 | none => false)
      | _ => false)
  | .convert s t x, .same y => mArg x y && (P.underlying s).isSome && isStr (P.underlying t)
  | .call { callee := .builtin .len, args := xs, argTypes := ts }, .len y => mArgs xs.toList [y] && (match ts.toList with
      | [t] => match P.underlying t with | some (.slice _) => true | _ => false
      | _ => false)
  | .call { callee := .builtin .len, args := xs, argTypes := ts }, .lenS y => mArgs xs.toList [y] && (match ts.toList with
      | [t] => isStr (P.underlying t)
      | _ => false)
  | .call { callee := .builtin .len, args := xs, argTypes := ts }, .mv (.c (.int .i64 n)) => xs.size == 1 && (match ts.toList with
      | [t] => match P.underlying t with
        | some (.array m _) => decide (n = m)
        | some (.pointer a) => match P.underlying a with | some (.array m _) => decide (n = m) | _ => false
        | _ => false
      | _ => false)
  | .call { callee := .builtin .max, args := xs, argTypes := _ }, .minmax true x y => mArgs xs.toList [x, y]
  | .call { callee := .builtin .min, args := xs, argTypes := _ }, .minmax false x y => mArgs xs.toList [x, y]
  | .load t p, .load sz q => mArg p q && decide (szOf P t = some sz)
  | .store t p v, .store n q u => mArg p q && mArg v u && (match P.info? t with | some i => i.size == n | none => false)
  | .fieldAddr t p f, .faddr off q => mArg p q && (match P.underlying t with
      | some (.struct fs) => match fs[f]? with
        | some fl => fl.offset == off && (match P.info? fl.type with | some i => i.size != 0 | none => false)
        | none => false
      | _ => false)
  | .field t x f, .field off sz y => mArg x y && (match P.underlying t with
      | some (.struct fs) => match fs[f]? with
        | some fl => fl.offset == off && decide (szOf P fl.type = some sz)
        | none => false
      | _ => false)
  | .indexAddr t x i, .iaddr z y k => mArg x y && mArg i k && (elemOk P t z).isSome
  | .indexAddr t x i, .iaddrA n z y k => mArg x y && mArg i k && (match P.underlying t with
      | some (.array m e) => m == n && (match P.info? e with | some j => j.size == z | none => false)
      | _ => false)
  | .index t x i, .index y k => mArg x y && mArg i k && isStr (P.underlying t)
  | .slice t x lo hi mx, .sliceS y l h => mArg x y && mOpt lo l && mOpt hi h && mx.isNone && isStr (P.underlying t)
  | .slice t x lo hi mx, .slice z y l h m => mArg x y && mOpt lo l && mOpt hi h && mOpt mx m && (elemOk P t z).isSome
  | .makeSlice t n c, .make zero n' c' => mArg n n' && mArg c c' && (match P.underlying t with | some (.slice e) => zeroOk P e zero | _ => false)
  | .buildSlice t n ps, .bown zero parts => n == parts.length && mParts 0 ps.toList parts && decide (n * zero.length ≤ 16777216) && (match P.underlying t with | some (.slice e) => zeroOk P e zero | _ => false)
  | .buildSlice t n ps, .bslice _ zero parts => n == parts.length && mParts 0 ps.toList parts && decide (n * zero.length ≤ 16777216) && (match P.underlying t with | some (.slice e) => zeroOk P e zero | _ => false)
  | .build t ps, .build zero parts => (match P.info? t with | some i => (match i.zero with | some z => cMatchL z.cells.toList zero | none => false) | none => false) && (match P.underlying t with
      | some (.struct fs) => fs.toList.all (fun f => (P.info? f.type).isSome) && mBuild (fun i => (fs[i]?).bind fun f => (P.info? f.type).map fun j => (f.offset, j.size)) ps.toList parts
      | some (.array _ e) => match P.info? e with | some j => mBuild (fun i => some (i * j.size, j.size)) ps.toList parts | none => false
      | _ => false)
  | .alloc e, .alloc zero => (match P.info? e with | some i => (match i.zero with | some z => cMatchL z.cells.toList zero | none => false) | none => false)
  | .move x, .home _ y | .assign x, .home _ y => mArg x y
  | .call { callee := .builtin .append, args := xs, argTypes := ts }, .appz z zero s x => mArgs xs.toList [s, x] && (match ts.toList with
      | [t, u] => (elemOk P t z).isSome && (match P.underlying u with | some (.int _) => true | _ => false) && (match P.underlying t with | some (.slice e) => zeroOk P e zero | _ => false)
      | _ => false)
  | .alloc e, .aa _ zero => (match P.info? e with | some i => (match i.zero with | some z => cMatchL z.cells.toList zero | none => false) | none => false)
  | .box _ x, .box y => mArg x y
  | .box _ x, .bref y => mArg x y
  | .call { callee := .builtin .append, args := xs, argTypes := ts }, .appl z s x => mArgs xs.toList [s, x] && (match ts.toList with
      | [t, u] => (elemOk P t z).isSome && (match P.underlying u with | some (.slice _) | some .string => true | _ => false)
      | _ => false)
  | .call { callee := .builtin .append, args := xs, argTypes := ts }, .append z s x => mArgs xs.toList [s, x] && (match ts.toList with
      | [t, u] => (elemOk P t z).isSome && (match P.underlying u with | some (.slice _) | some .string => true | _ => false)
      | _ => false)
  | .call { callee := .value (.func f), args := xs, argTypes := _ }, .xload k g p => f == g && atOk P f .load k && mArgs xs.toList [p]
  | .call { callee := .value (.func f), args := xs, argTypes := _ }, .xstore k g p v => f == g && atOk P f .store k && mArgs xs.toList [p, v]
  | .call { callee := .value (.func f), args := xs, argTypes := _ }, .xadd k g p v => f == g && atOk P f .add k && mArgs xs.toList [p, v]
  | .call { callee := .value (.func f), args := xs, argTypes := _ }, .xcas k g p o n => f == g && atOk P f .cas k && mArgs xs.toList [p, o, n]
  | .call { callee := .builtin .copy, args := xs, argTypes := ts }, .copy z d x => mArgs xs.toList [d, x] && (match ts.toList with
      | [t, u] => (elemOk P t z).isSome && (match P.underlying u with | some (.slice _) => true | _ => false)
      | _ => false)
  | .extract x i, .extract i' y => i == i' && mArg x y
  | .nilCheck x, .nilck y => mArg x y
  | .makeFunc (.func f) fst caps, .mkfun g caps' => f == g && fst.size == 0 && mArgs caps.toList caps'
  | .makeFunc (.func f) fst caps, .mkmeth g fst' => f == g && caps.size == 0 && mArgs fst.toList fst'
  | .call { callee := .value (.func f), args := xs, argTypes := _ }, .callP g ys => f == g && mArgs xs.toList ys
  | .call { callee := .value (.func f), args := xs, argTypes := _ }, .callH g ys => f == g && mArgs xs.toList ys
  | .call { callee := .value (.func f), args := xs, argTypes := _ }, .cl _ _ g ys => f == g && mArgs xs.toList ys
  | .call { callee := .value (.func f), args := xs, argTypes := _ }, .clo _ _ _ g ys => f == g && mArgs xs.toList ys
  | .call { callee := .value x, args := xs, argTypes := _ }, .callvP g ys => mArg x g && mArgs xs.toList ys
  | .call { callee := .value x, args := xs, argTypes := _ }, .callvH g ys => mArg x g && mArgs xs.toList ys
  | _, .bad => true
  | _, _ => false

def mOpX (P : Program) (o : Op) (d : DOp) : Bool :=
  match d with
  | .im d => decide (d.kind = 1) && mOp P o d
  | .rd d => mOp P o d
  | .rz _ d => decide (d.kind = 1) && mOp P o d
  | .fz d => mOp P o d
  | .rk _ d => mOp P o d
  | .tk _ _ d => mOp P o d
  | .to _ d => mOp P o d
  | .al d => mOp P o d
  | .ei f args => mOp P o (.callH f args) && mOp P o (.callP f args)
  | d => mOp P o d

def mGuard (ops : Array Oper) : Option (Nat × Bool) → Option (Nat × Bool) → Bool
  | none, none => true
  | some (j, b), some (t, b') => decide ((ops[j]?).bind (·.dst) = some t) && b == b'
  | _, _ => false

def mOper (P : Program) (N : Nat) (ops : Array Oper) (o : Oper) (d : DOper) : Bool :=
  mOpX P o.op d.op && decide (o.dst = d.dst) && (match d.dst with | some t => decide (t < N) | none => true) && mGuard ops o.guard d.guard

def mOpers (P : Program) (N : Nat) (ops : Array Oper) : List Oper → List DOper → Bool
  | [], [] => true
  | o :: r, d :: s => mOper P N ops o d && mOpers P N ops r s
  | _, _ => false

end Go.Nk

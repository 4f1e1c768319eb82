/- The data level: values, heaps, operations and codes of a small functional reading of the program's code. -/
import Derived.WalkKit
import Derived.Deep.AppendSrc
import Derived.Deep.Draws
import Derived.Laws.StructEq
set_option linter.all false
namespace Go.Nk
open Go.RowKit
inductive DV where
 |undef
 |int (k:IntKind) (n:Int)
 |bool (b:Bool)
 |str (s:List UInt8)
 |nil
 |sl (es:List (List DV))
 |own (h L off len:Nat)
 |ptr (h L i j:Nat)
 |ref (cs:List DV)
 |Ia
 |agg (cs:List DV)
 |cy (vs:List DV)
 |clo (f:FuncId) (caps:List DV)
 |zY (f:FuncId) (fst:List DV)
 |Qm (l:Nat)
 |mp (h:Nat)
 |ifc (t:TypeId) (d:DV)
 |FC
instance:Inhabited DV:=⟨.undef⟩
inductive Kd where
 |aN|loc|sY|dead
 |mp (es:List (List UInt8×DV))
noncomputable section
open Classical in
instance:DecidableEq Kd
 | .aN,.aN| .loc,.loc| .sY,.sY| .dead,.dead=>isTrue rfl
 | .mp a,.mp b=>if h:a=b then isTrue (h▸rfl)else isFalse λe=>h (by injection e)
 | .aN,.loc| .aN,.sY| .aN,.dead| .aN,.mp _| .loc,.aN| .loc,.sY| .loc,.dead| .loc,.mp _| .sY,.aN| .sY,.loc| .sY,.dead| .sY,.mp _
 | .dead,.aN| .dead,.loc| .dead,.sY| .dead,.mp _| .mp _,.aN| .mp _,.loc| .mp _,.sY| .mp _,.dead=>isFalse (by intro h;cases h)
structure ak where
 k:Kd
 z:Nat
 es:List (List DV)
instance:Inhabited ak:=⟨⟨.dead,0,[]⟩⟩
def DV.one:DV->Bool
 | .agg _| .cy _| .undef=>false
 |_=>true
def DV.aY:DV->Bool
 | .int .. | .bool _| .str _| .nil| .sl .. | .ref _| .Ia| .ifc .. =>true
 |_=>false
def DV.isU:DV->Bool
 | .undef=>true
 |_=>false
def cellAt(es:List (List DV))(i j:Nat):Option DV:=(es[i]?).bind (·[j]?)
def get(n:Nat):List (Nat×DV)->DV
 |[]=> .undef
 |(m,d)::r=>if n=m then d else get n r
@[simp] theorem get_nil(n:Nat):get n []= .undef:=rfl
theorem cw(n m:Nat)(d:DV)(r:List (Nat×DV)):get n ((m,d)::r)=if n=m then d else get n r:=rfl
structure DS where
 fr:List (Nat×DV)
 hp:List ak
inductive DA where
 |t (n:Nat)
 |c (d:DV)
def DA.ev(fr:List (Nat×DV)):DA->DV
 | .t n=>get n fr
 | .c d=>d
structure sj where
 pre:Prop
 val:DV
 hp:List ak
def no:sj:=⟨False,.undef,[]⟩
def bitsOf(op:BinOp)(k:IntKind)(x y:Int):Int:=
 let a:=BitVec.ofInt k.bits x;let b:=BitVec.ofInt k.bits y;match op with
 | .and=>k.wrap (a&&&b).toNat
 | .or=>k.wrap (a|||b).toNat
 | .xor=>k.wrap (a^^^b).toNat
 |_=>k.wrap (a&&& ~~~b).toNat
def cS(op:BinOp)(k:IntKind)(a b:Int):Prop×DV:=
 match op with
 | .add=>(True,.int k (k.wrap (a+b)))
 | .sub=>(True,.int k (k.wrap (a-b)))
 | .mul=>(True,.int k (k.wrap (a*b)))
 | .quo=>(b≠0,.int k (k.wrap (a.tdiv b)))
 | .rem=>(b≠0,.int k (a.tmod b))
 | .and| .or| .xor| .andNot=>(True,.int k (bitsOf op k a b))
 | .eql=>(True,.bool (a==b))
 | .neq=>(True,.bool (a !=b))
 | .lss=>(True,.bool (a<b))
 | .leq=>(True,.bool (a<=b))
 | .gtr=>(True,.bool (a>b))
 | .geq=>(True,.bool (a≥b))
 |_=>(False,.undef)
def iI:Nat:=4611686018427387904
def Vx(op:BinOp)(a b:List UInt8):Prop×DV:=
 match op with
 | .add=>(a.length+b.length<=iI,.str (a++b))
 | .eql=>(True,.bool (a==b))
 | .neq=>(True,.bool (!(a==b)))
 | .lss=>(True,.bool (Op.bytesLess a b))
 | .leq=>(True,.bool (Op.bytesLess a b||a==b))
 | .gtr=>(True,.bool (!(Op.bytesLess a b||a==b)))
 | .geq=>(True,.bool (!(Op.bytesLess a b)))
 |_=>(False,.undef)
def ez:List Nat->List DV->List DV->Option Bool
 |[],[],[]=>some true
 |0::ks,.int k a::r,.int k' b::s=>if k=k' then(if a==b then ez ks r s else some false)else none
 |1::ks,.bool a::r,.bool b::s=>if a==b then ez ks r s else some false
 |2::ks,.str a::r,.str b::s=>if a==b then ez ks r s else some false
 |_,_,_=>none
def cI(op:BinOp):DV->DV->Prop×DV
 | .int k a,.int k' b=>
   match op with
   | .shl=>(0<=b,.int k (k.wrap (a*2^(min b.toNat k.bits))))
   | .shr=>(0<=b,.int k (a.fdiv (2^(min b.toNat k.bits))))
   |_=>if k=k' then cS op k a b else(False,.undef)
 | .str a,.str b=>Vx op a b
 |_,_=>(False,.undef)
def MI(neg:Bool):DV->DV->Prop×DV
 | .bool a,.bool b=>(True,.bool (if neg then !(a==b)else a==b))
 |_,_=>(False,.undef)
def Vf(neg:Bool)(ks:List Nat):DV->DV->Prop×DV
 | .agg a,.agg b=>match ez ks a b with|some r=>(a.length=ks.length/\b.length=ks.length,.bool (if neg then !r else r))|none=>(False,.undef)
 |_,_=>(False,.undef)
def IX(op:UnOp):DV->Prop×DV
 | .int k n=>
   match op with
   | .neg=>(True,.int k (k.wrap (0-n)))
   | .xor=>(True,.int k (bitsOf .xor k (if k.signed then-1 else k.max) n))
   |_=>(False,.undef)
 | .bool b=>
   match op with
   | .not=>(True,.bool (!b))
   |_=>(False,.undef)
 |_=>(False,.undef)
def aI(hp:List ak):DV->Prop×List DV
 | .ref cs=>(True,cs)
 | .ptr h L i j=>
   match hp[h]? with
   |some o=>if o.k= .dead then(False,[])else(o.es.length=L/\i<L,(o.es.getD i []).drop j)
   |none=>(False,[])
 |_=>(False,[])
def bA(sz:Option Nat)(x:Prop×List DV):Prop×DV:=
 match sz with
 |none=>(x.1/\0<x.2.length,x.2.getD 0 .undef)
 |some n=>(x.1/\n<=x.2.length,.agg (x.2.take n))
def cellsOf:DV->List DV
 | .agg cs=>cs
 |d=>[d]
def setFrom:List DV->Nat->List DV->List DV
 |row,_,[]=>row
 |row,j,c::cs=>setFrom (row.set j c) (j+1) cs
structure awd where
 pre:Prop
 es:List (List DV)
def bf(hp:List ak):DV->awd
 | .nil=>⟨True,[]⟩
 | .sl es=>⟨True,es⟩
 | .own h L off len=>
   match hp[h]? with
   |some o=>if o.k= .aN\/o.k= .sY then⟨o.es.length=L/\off+len<=L,(o.es.drop off).take len⟩else⟨False,[]⟩
   |none=>⟨False,[]⟩
 | .str s=>⟨True,s.map λb=>[.int .u8 b.toNat]⟩
 |_=>⟨False,[]⟩
def je(hp:List ak)(h:Nat):List ak:=
 match hp[h]? with
 |some o=>hp.set h {o with k:= .sY}
 |none=>hp
def uW(hp:List ak):DV->Prop×DV
 | .ptr h L i j=>match hp[h]? with
   |some o=>(o.k≠ .dead/\o.es.length=L/\i<L/\∀r∈o.es,∀c∈r,c.aY=true,.ref ((o.es.getD i []).drop j))
   |none=>(False,.undef)
 |d=>(d.aY=true,d)
def kI(hp:List ak):List DV->Prop×List DV
 |[]=>(True,[])
 |d::r=>((uW hp d).1/\(kI hp r).1,(uW hp d).2::(kI hp r).2)
def hH(hp:List ak)(d:DV):sj:=
 match d with
 | .own h _ _ _=>⟨(bf hp d).pre,.sl (bf hp d).es,je hp h⟩
 | .nil=>⟨True,.sl [],hp⟩
 | .clo f cs=>⟨cs.all DV.aY=true,.clo f cs,hp⟩
 |_=>if d.aY then⟨True,d,hp⟩else⟨False,.undef,hp⟩
structure awe where
 pre:Prop
 dL:List DV
 hp:List ak
def tJ(hp:List ak):List DV->awe
 |[]=>⟨True,[],hp⟩
 |d::r=>
  let x:=hH hp d;let y:=tJ x.hp r
  ⟨x.pre/\y.pre,x.val::y.dL,y.hp⟩
structure awf where
 pre:Prop
 dL:List (List DV)
 hp:List ak
def xJ(hp:List ak):List (List DV)->awf
 |[]=>⟨True,[],hp⟩
 |d::r=>
  let x:=tJ hp d;let y:=xJ x.hp r
  ⟨x.pre/\y.pre,x.dL::y.dL,y.hp⟩
def iq(hp:List ak):DV->sj
 | .agg cs=>let x:=tJ hp cs;⟨x.pre,.agg x.dL,x.hp⟩
 |d=>hH hp d
def fx(hp:List ak):List DV->awe
 |[]=>⟨True,[],hp⟩
 |d::r=>
  let x:=iq hp d;let y:=fx x.hp r
  ⟨x.pre/\y.pre,x.val::y.dL,y.hp⟩
def bX(hp:List ak)(d:DV):Prop×DV:=
 match d with
 | .own .. =>((bf hp d).pre,.sl (bf hp d).es)
 | .nil=>(True,.sl [])
 | .clo f cs=>((kI hp cs).1,.clo f (kI hp cs).2)
 |_=>if d.aY then(True,d)else(False,.undef)
def dE:DV->Bool
 | .int .. | .bool _| .str _| .Ia=>true
 |_=>false
def bW:DV->Bool
 | .cy vs=>vs.all dE
 | .agg vs=>vs.all dE
 |d=>dE d
inductive aS where
 |mv (x:DA)
 |mvf (x:DA)
 |uz (z:Nat) (x:DA)
 |pick (c a b:DA)
 |bin (op:BinOp) (x y:DA)
 |beq (neg:Bool) (x y:DA)
 |aeq (neg:Bool) (ks:List Nat) (x y:DA)
 |un (op:UnOp) (x:DA)
 |conv (k:IntKind) (x:DA)
 |b2s (x:DA)
 |PL (neg:Bool) (x:DA)
 |len (x:DA)
 |agK (x:DA)
 |Fv (mx:Bool) (x y:DA)
 |load (sz:Option Nat) (p:DA)
 |store (n:Nat) (p v:DA)
 |pY (off:Nat) (p:DA)
 |field (off:Nat) (sz:Option Nat) (x:DA)
 |pZ (z:Nat) (x i:DA)
 |me (n z:Nat) (p i:DA)
 |index (x i:DA)
 |slice (z:Nat) (x:DA) (lo hi mx:Option DA)
 |wR (x:DA) (lo hi:Option DA)
 |make (zero:List DV) (n c:DA)
 |ux (aN:Bool) (zero:List DV) (parts:List (Option DA))
 |build (zero:List DV) (parts:List (Nat×Nat×DA))
 |alloc (zero:List DV)
 |box (x:DA)
 |append (z:Nat) (s x:DA)
 |extract (i:Nat) (x:DA)
 |p9 (x:DA)
 |uy (f:FuncId) (caps:List DA)
 |p8 (f:FuncId) (args:List DA)
 |S7 (f:FuncId) (args:List DA)
 |v7 (f:FuncId) (args:List DA)
 |rz (z:Nat) (d:aS)
 |ib (f:FuncId) (args:List DA)
 |cl (b z:Nat) (f:FuncId) (args:List DA)
 |clo (h b z:Nat) (f:FuncId) (args:List DA)
 |qt (f:DA) (args:List DA)
 |KC (f:DA) (args:List DA)
 |to (b:Nat) (d:aS)
 |rd (d:aS)
 |bad
 |akE (x:DA)
 |acA (x:DA)
 |home (z:Nat) (x:DA)
 |aoy (z:Nat) (zero:List DV) (s n:DA)
 |copy (z:Nat) (d x:DA)
 |H8
 |Fx (m k:DA)
 |KB (m k x:DA)
 |Za (t:TypeId) (x:DA)
 |acz (t:TypeId) (zero x:DA)
 |aa (h:Nat) (zero:List DV)
 |rk (lo:Nat) (d:aS)
 |tk (b lo:Nat) (d:aS)
 |fz (d:aS)
 |im (d:aS)
structure ae where
 dst:Option Nat
 op:aS
 guard:Option (Nat×Bool):=none
structure jL where
 p:FuncId->List DV->Prop×DV
 h:FuncId->List DV->List ak->sj
 i:FuncId->List DV->Prop×List (List DV)
 w:FuncId->List DV->Prop×List (List DV)
def kT:Nat:=4294967296
def rZ:List DV->Nat
 |[.int .i64 0]=>17592186044416
 |_=>4294967296
def eG(x:Option DV)(ac6:Int):Prop×Int:=
 match x with
 |none=>(True,ac6)
 |some (.int _ n)=>(True,n)
 |_=>(False,0)
def qM(x:DV)(lo hi:Option DV):Prop×DV:=
 match x with
 | .str s=>
   let l:=eG lo 0;let h:=eG hi s.length
   (l.1/\h.1/\0<=l.2/\l.2<=h.2/\h.2<=s.length,.str ((s.take h.2.toNat).drop l.2.toNat))
 |_=>(False,.undef)
def nD(hp:List ak)(z:Nat)(x:DV)(lo hi mx:Option DV):Prop×DV:=
 match x with
 | .sl es=>
   let l:=eG lo 0;let h:=eG hi es.length;let m:=eG mx h.2
   ((∀e∈es,e.length=z)/\l.1/\h.1/\m.1/\(mx.isSome=true->hi.isSome=true)/\0<=l.2/\l.2<=h.2/\h.2<=m.2/\m.2<=es.length,.sl ((es.take h.2.toNat).drop l.2.toNat))
 | .own o L off len=>
   let l:=eG lo 0;let h:=eG hi len;let m:=eG mx h.2
   (l.1/\h.1/\m.1/\(mx.isSome=true->hi.isSome=true)/\0<=l.2/\l.2<=h.2/\h.2<=m.2/\m.2<=len/\
    (match hp[o]? with|some ob=>ob.k≠ .dead/\ob.z=z/\ob.es.length=L|none=>False),.own o L (off+l.2.toNat) (h.2.toNat-l.2.toNat))
 | .nil=>
   let l:=eG lo 0;let h:=eG hi 0;let m:=eG mx 0
   (l.1/\h.1/\m.1/\(mx.isSome=true->hi.isSome=true)/\l.2=0/\h.2=0/\m.2=0,.nil)
 |_=>(False,.undef)
def fy(hp:List ak):List DV->Prop×List DV
 |[]=>(True,[])
 |d::r=>((bX hp d).1/\(fy hp r).1,(bX hp d).2::(fy hp r).2)
def cn(hp:List ak):DV->Prop×DV
 | .agg cs=>((fy hp cs).1,.agg (fy hp cs).2)
 |d=>bX hp d
def bn(hp:List ak):List DV->Prop×List DV
 |[]=>(True,[])
 |d::r=>((cn hp d).1/\(bn hp r).1,(cn hp d).2::(bn hp r).2)
def bh(C:jL)(hp:List ak)(f:FuncId)(args:List DV):sj:=
 let v:=bn hp args;let r:=C.p f v.2
 if bW r.2 then⟨v.1/\r.1,r.2,hp⟩else
  let z:=fx hp args
  ⟨z.pre/\(C.p f z.dL).1,(C.p f z.dL).2,z.hp⟩
def sN(hp:List ak)(z:Nat)(s x:DV):sj:=
 let src:=bf hp x;match s with
 | .nil=>⟨src.pre/\src.es.length<=kT/\(∀e∈src.es,e.length=z),.own hp.length src.es.length 0 src.es.length,hp++[⟨.aN,z,src.es⟩]⟩
 | .own h L off len=>
   match hp[h]? with
   |some o=>
    ⟨src.pre/\(∀e∈src.es,e.length=z)/\o.k= .aN/\o.z=z/\o.es.length=L/\off=0/\len=L/\L+src.es.length<=kT,
     .own h (L+src.es.length) 0 (L+src.es.length),hp.set h ⟨.aN,z,o.es++src.es⟩⟩
   |none=>no
 |_=>no
def SV(hp:List ak)(z:Nat)(zero:List DV)(s n:DV):sj:=
 match n with
 | .int .i64 m=>
   match s with
   | .nil=>⟨0<=m/\m.toNat<=kT,.own hp.length m.toNat 0 m.toNat,hp++[⟨.aN,z,List.replicate m.toNat zero⟩]⟩
   | .own h L off len=>
     match hp[h]? with
     |some o=>
      ⟨0<=m/\o.k= .aN/\o.z=z/\o.es.length=L/\off=0/\len=L/\L+m.toNat<=kT,
       .own h (L+m.toNat) 0 (L+m.toNat),hp.set h ⟨.aN,z,o.es++List.replicate m.toNat zero⟩⟩
     |none=>no
   |_=>no
 |_=>no
def lY(hp:List ak)(n:Nat)(p v:DV):sj:=
 match p with
 | .ptr h L i j=>
   match hp[h]? with
   |some o=>
    if o.k= .loc then
     ⟨(cellsOf v).length=n/\o.es.length=L/\i<L/\j+(cellsOf v).length<=(o.es.getD i []).length/\(∀d∈cellsOf v,d.one=true),.cy [],
       hp.set h {o with es:=o.es.set i (setFrom (o.es.getD i []) j (cellsOf v))}⟩
    else if o.k= .aN then
     let y:=tJ hp (cellsOf v);match y.hp[h]? with
     |some o'=>
      ⟨(cellsOf v).length=n/\y.pre/\o'.k= .aN/\o.es.length=L/\i<L/\j+(cellsOf v).length<=(o.es.getD i []).length,.cy [],
        y.hp.set h {o with es:=o.es.set i (setFrom (o.es.getD i []) j y.dL)}⟩
     |none=>no
    else no
   |none=>no
 |_=>no
def bZ(cells:List DV)(fr:List (Nat×DV)):List (Nat×Nat×DA)->Prop×List DV
 |[]=>(True,cells)
 |(off,n,x)::r=>
  let b:=bZ (setFrom cells off (cellsOf (x.ev fr))) fr r
  ((x.ev fr).isU=false/\(cellsOf (x.ev fr)).length=n/\off+n<=cells.length/\b.1,b.2)
def wL(fr:List (Nat×DV))(zero:List DV):Option DA->List DV
 |some x=>cellsOf (x.ev fr)
 |none=>zero
def bU(fr:List (Nat×DV))(zero:List DV):Option DA->Bool
 |some x=> !(x.ev fr).isU&&(cellsOf (x.ev fr)).length==zero.length
 |none=>true
def alive(hp:List ak)(h L:Nat):Prop:=
 match hp[h]? with
 |some o=>o.k≠ .dead/\o.es.length=L
 |none=>False
def uT:DV->Option Nat
 | .ptr h _ _ _=>some h
 | .own h _ _ _=>some h
 | .mp h=>some h
 | .agg [.ptr h _ _ _]=>some h
 |_=>none
def V3(k:Nat)(d:DV):Bool:=d.aY||(match d with| .ptr h _ _ _=>h==k|_=>false)
def V4(k:Nat)(d:DV):Bool:=V3 k d||(match d with| .agg cs=>cs.all (V3 k)|_=>false)
def aeY(k:Nat)(d:DV):Bool:=V4 k d||(match d with| .zY _ cs=>cs.all (V4 k)|_=>false)
def aoQ(d:DV):Bool:=d.aY||(match d with| .agg cs=>cs.all DV.aY|_=>false)
def Au(k:List UInt8):List (List UInt8×DV)->Option DV
 |[]=>none
 |e::r=>if k=e.1 then some e.2 else Au k r
def FQ(k:List UInt8)(d:DV):List (List UInt8×DV)->List (List UInt8×DV)
 |[]=>[(k,d)]
 |e::r=>if k=e.1 then(k,d)::r else e::FQ k d r
def Kd.Uz:Kd->Option (List (List UInt8×DV))
 | .mp es=>some es
 |_=>none
def fG(hp:List ak):DV->Option (List (List UInt8×DV))
 | .mp h=>(hp[h]?).bind (·.k.Uz)
 |_=>none
def mpH:DV->Nat
 | .mp h=>h
 |_=>0
def slD:DV->Option DV
 | .nil=>some (.sl [])
 | .sl es=>some (.sl es)
 |_=>none
def aw(C:jL)(op:aS)(s:DS):sj:=
 match op with
 | .mv x=>⟨True,x.ev s.fr,s.hp⟩
 | .mvf x=>iq s.hp (x.ev s.fr)
 | .uz z x=>match x.ev s.fr with
   | .nil=>⟨True,.own s.hp.length 0 0 0,s.hp++[⟨.aN,z,[]⟩]⟩
   |_=>no
 | .pick c a b=>match c.ev s.fr with
   | .bool true=>⟨True,a.ev s.fr,s.hp⟩
   | .bool false=>⟨True,b.ev s.fr,s.hp⟩
   |_=>no
 | .bin op x y=>let r:=cI op (x.ev s.fr) (y.ev s.fr);⟨r.1,r.2,s.hp⟩
 | .beq n x y=>let r:=MI n (x.ev s.fr) (y.ev s.fr);⟨r.1,r.2,s.hp⟩
 | .aeq n m x y=>let r:=Vf n m (x.ev s.fr) (y.ev s.fr);⟨r.1,r.2,s.hp⟩
 | .un op x=>let r:=IX op (x.ev s.fr);⟨r.1,r.2,s.hp⟩
 | .conv k x=>match x.ev s.fr with
   | .int _ n=>⟨True,.int k (k.wrap n),s.hp⟩
   |_=>no
 | .b2s x=>let r:=bf s.hp (x.ev s.fr)
   ⟨r.pre/\(match x.ev s.fr with| .str _=>False|_=>True)/\(∀e∈r.es,∃n,e=[.int .u8 n]),.str (r.es.map λe=>match e with|[.int _ n]=>UInt8.ofNat n.toNat|_=>0),s.hp⟩
 | .PL n x=>match x.ev s.fr with
   | .nil=>⟨True,.bool (!n),s.hp⟩
   | .sl []=>⟨True,.FC,s.hp⟩
   | .sl (_::_)=>⟨True,.bool n,s.hp⟩
   | .own h L _ len=>⟨alive s.hp h L,if 0<len then .bool n else .FC,s.hp⟩
   |_=>no
 | .len x=>match x.ev s.fr with
   | .sl es=>⟨True,.int .i64 es.length,s.hp⟩
   | .nil=>⟨True,.int .i64 0,s.hp⟩
   | .own h L _ n=>⟨alive s.hp h L,.int .i64 n,s.hp⟩
   |_=>no
 | .agK x=>match x.ev s.fr with
   | .str b=>⟨True,.int .i64 b.length,s.hp⟩
   |_=>no
 | .Fv mx x y=>match x.ev s.fr,y.ev s.fr with
   | .int k a,.int k' b=>⟨k=k',.int k (if mx then max a b else min a b),s.hp⟩
   |_,_=>no
 | .load sz p=>let r:=bA sz (aI s.hp (p.ev s.fr));⟨r.1,r.2,s.hp⟩
 | .store n p v=>lY s.hp n (p.ev s.fr) (v.ev s.fr)
 | .pY off p=>match p.ev s.fr with
   | .ref cs=>⟨True,.ref (cs.drop off),s.hp⟩
   | .ptr h L i j=>⟨alive s.hp h L,.ptr h L i (j+off),s.hp⟩
   |_=>no
 | .field off sz x=>match x.ev s.fr with
   | .agg cs=>let r:=bA sz (True,cs.drop off);⟨r.1,r.2,s.hp⟩
   |_=>no
 | .pZ z x i=>match x.ev s.fr,i.ev s.fr with
   | .sl es,.int _ n=>⟨(es.getD n.toNat []).length=z/\0<=n/\n<es.length,.ref (es.getD n.toNat []),s.hp⟩
   | .own h L off len,.int _ n=>
     match s.hp[h]? with
     |some o=>⟨o.k≠ .dead/\o.z=z/\o.es.length=L/\0<=n/\n<len,.ptr h L (off+n.toNat) 0,s.hp⟩
     |none=>no
   |_,_=>no
 | .me n z p i=>match p.ev s.fr,i.ev s.fr with
   | .ref cs,.int _ m=>⟨0<=m/\m<n,.ref (cs.drop (m.toNat*z)),s.hp⟩
   | .ptr h L i j,.int _ m=>⟨alive s.hp h L/\0<=m/\m<n,.ptr h L i (j+m.toNat*z),s.hp⟩
   |_,_=>no
 | .index x i=>match x.ev s.fr,i.ev s.fr with
   | .str b,.int _ n=>⟨0<=n/\n<b.length,.int .u8 (b.getD n.toNat 0).toNat,s.hp⟩
   |_,_=>no
 | .wR x lo hi=>let r:=qM (x.ev s.fr) (lo.map (·.ev s.fr)) (hi.map (·.ev s.fr));⟨r.1,r.2,s.hp⟩
 | .slice z x lo hi mx=>let r:=nD s.hp z (x.ev s.fr) (lo.map (·.ev s.fr)) (hi.map (·.ev s.fr)) (mx.map (·.ev s.fr));⟨r.1,r.2,s.hp⟩
 | .make zero n c=>match n.ev s.fr,c.ev s.fr with
   | .int _ a,.int _ b=>⟨0<=a/\a<=b/\b<=rZ zero,.own s.hp.length a.toNat 0 a.toNat,s.hp++[⟨.aN,zero.length,List.replicate a.toNat zero⟩]⟩
   |_,_=>no
 | .ux aN zero parts=>
   let es:=parts.map (wL s.fr zero);let y:=xJ s.hp es;let u:=parts.all (bU s.fr zero)
   if aN then⟨u=true/\y.pre/\(∀e∈y.dL,e.length=zero.length),.sl y.dL,y.hp⟩
   else⟨u=true/\y.pre/\(∀e∈y.dL,e.length=zero.length),.own y.hp.length y.dL.length 0 y.dL.length,y.hp++[⟨.aN,zero.length,y.dL⟩]⟩
 | .build zero parts=>let b:=bZ zero s.fr parts;⟨b.1,.agg b.2,s.hp⟩
 | .alloc zero=>⟨True,.ptr s.hp.length 1 0 0,s.hp++[⟨.loc,zero.length,[zero]⟩]⟩
 | .box x=>⟨∀d∈cellsOf (x.ev s.fr),d.one=true,.ptr s.hp.length 1 0 0,s.hp++[⟨.loc,(cellsOf (x.ev s.fr)).length,[cellsOf (x.ev s.fr)]⟩]⟩
 | .append z a x=>sN s.hp z (a.ev s.fr) (x.ev s.fr)
 | .extract i x=>match x.ev s.fr with
   | .cy vs=>⟨i<vs.length,vs.getD i .undef,s.hp⟩
   |_=>no
 | .p9 x=>match x.ev s.fr with
   | .ptr h L i j=>⟨alive s.hp h L,.ptr h L i j,s.hp⟩
   | .ref cs=>⟨True,.ref cs,s.hp⟩
   | .clo f cs=>⟨True,.clo f cs,s.hp⟩
   | .zY f cs=>⟨True,.zY f cs,s.hp⟩
   |_=>no
 | .uy f caps=>⟨True,.clo f (caps.map (·.ev s.fr)),s.hp⟩
 | .p8 f args=>bh C s.hp f (args.map (·.ev s.fr))
 | .S7 f args=>C.h f (args.map (·.ev s.fr)) s.hp
 | .ib f args=>⟨(C.h f (args.map (·.ev s.fr)) s.hp).pre/\(C.h f (args.map (·.ev s.fr)) s.hp).hp.length=s.hp.length/\(∀t,(C.h f (args.map (·.ev s.fr)) (s.hp++t)).pre/\
  (C.h f (args.map (·.ev s.fr)) (s.hp++t)).val=(C.h f (args.map (·.ev s.fr)) s.hp).val/\(C.h f (args.map (·.ev s.fr)) (s.hp++t)).hp=(C.h f (args.map (·.ev s.fr)) s.hp).hp++t),
  (C.h f (args.map (·.ev s.fr)) s.hp).val,(C.h f (args.map (·.ev s.fr)) s.hp).hp⟩
 | .cl b z f args=>match uT (get b s.fr)with
   |some k=>match s.hp[k]? with
    |some o=>match (C.h f (args.map (·.ev s.fr)) (List.replicate k ⟨.dead,0,[]⟩++[o])).hp[k]? with
     |some o'=>⟨o.z=z/\(args.map (·.ev s.fr)).all (aeY k)=true/\(C.h f (args.map (·.ev s.fr)) (List.replicate k ⟨.dead,0,[]⟩++[o])).pre/\o.k= .loc/\(∀r∈o.es,∀d∈r,d.aY=true)/\o'.k= .loc/\o'.es.length=o.es.length/\(∀r∈o'.es,∀d∈r,d.aY=true)/\
      aoQ (C.h f (args.map (·.ev s.fr)) (List.replicate k ⟨.dead,0,[]⟩++[o])).val=true,
      (C.h f (args.map (·.ev s.fr)) (List.replicate k ⟨.dead,0,[]⟩++[o])).val,s.hp.set k o'⟩
     |none=>no
    |none=>no
   |none=>no
 | .clo h b z f args=>match uT (get b s.fr)with
   |some k=>match s.hp[k]?,s.hp[h]? with
    |some o,some od=>match (C.h f (args.map (·.ev s.fr)) (List.replicate k ⟨.dead,0,[]⟩++[o])).val with
     | .own n L off len=>match (C.h f (args.map (·.ev s.fr)) (List.replicate k ⟨.dead,0,[]⟩++[o])).hp[k]?,(C.h f (args.map (·.ev s.fr)) (List.replicate k ⟨.dead,0,[]⟩++[o])).hp[n]? with
       |some o',some ob=>⟨o.z=z/\(args.map (·.ev s.fr)).all (aeY k)=true/\(C.h f (args.map (·.ev s.fr)) (List.replicate k ⟨.dead,0,[]⟩++[o])).pre/\o.k= .loc/\(∀r∈o.es,∀d∈r,d.aY=true)/\o'.k= .loc/\o'.es.length=o.es.length/\(∀r∈o'.es,∀d∈r,d.aY=true)/\
        od.k= .dead/\od.es=[]/\k<n/\ob.k= .aN/\ob.es.length=L/\(L=0->len=0),
        if L=0 then .sl []else .own h L off len,if L=0 then s.hp.set k o' else(s.hp.set k o').set h ob⟩
       |_,_=>no
     |_=>no
    |_,_=>no
   |none=>no
 | .qt g args=>match g.ev s.fr with
   | .clo f caps=>bh C s.hp f (args.map (·.ev s.fr)++caps)
   | .zY f fst=>bh C s.hp f (fst++args.map (·.ev s.fr))
   |_=>no
 | .KC g args=>match g.ev s.fr with
   | .clo f caps=>C.h f (args.map (·.ev s.fr)++caps) s.hp
   | .zY f fst=>C.h f (fst++args.map (·.ev s.fr)) s.hp
   |_=>no
 | .im _=>no
 | .fz _=>no
 | .bad=>no
 | .v7 .. =>no
 | .akE x=>⟨(cellsOf (x.ev s.fr)).all DV.aY=true,.ref (cellsOf (x.ev s.fr)),s.hp⟩
 | .acA x=>match x.ev s.fr with| .nil=>⟨True,.int .i64 0,s.hp⟩|_=>no
 | .home z x=>match x.ev s.fr with
   | .nil=>⟨True,.own s.hp.length 0 0 0,s.hp++[⟨.aN,z,[]⟩]⟩
   | .own h L off len=>match s.hp[h]? with
     |some o=>⟨o.k= .aN/\o.es.length=L/\off=0/\len<=L,.own s.hp.length len 0 len,s.hp.set h ⟨.dead,o.z,o.es⟩++[⟨.aN,o.z,o.es.take len⟩]⟩
     |none=>no
   |_=>no
 | .aoy z zero a n=>SV s.hp z zero (a.ev s.fr) (n.ev s.fr)
 | .copy z d x=>let src:=bf s.hp (x.ev s.fr)
   match d.ev s.fr with
   | .own h L off len=>match s.hp[h]? with
     |some o=>⟨(match x.ev s.fr with| .str _=>False|_=>True)/\src.pre/\(∀e∈src.es,e.length=z)/\o.k= .aN/\o.z=z/\o.es.length=L/\off+len<=L,
      .int .i64 (min src.es.length len:Nat),s.hp.set h ⟨.aN,o.z,o.es.take off++src.es.take len++o.es.drop (off+min src.es.length len)⟩⟩
     |none=>no
   |_=>no
 | .H8=>⟨True,.mp s.hp.length,s.hp++[⟨.mp [],0,[]⟩]⟩
 | .Fx m k=>match fG s.hp (m.ev s.fr),k.ev s.fr with
   |some es,.str b=>⟨True,(Au b es).getD (.sl []),s.hp⟩
   |_,_=>no
 | .KB m k x=>match fG s.hp (m.ev s.fr),k.ev s.fr,slD (x.ev s.fr)with
   |some es,.str b,some d=>⟨True,.cy [],s.hp.set (mpH (m.ev s.fr)) ⟨.mp (FQ b d es),0,[]⟩⟩
   |_,_,_=>no
 | .Za t x=>⟨(x.ev s.fr).aY=true,.ifc t (x.ev s.fr),s.hp⟩
 | .acz t z x=>match x.ev s.fr with
   | .ifc t' d=>⟨(z.ev s.fr).aY=true,if t'=t then .cy [d,.bool true]else .cy [z.ev s.fr,.bool false],s.hp⟩
   |_=>no
 | .aa h zero=>match s.hp[h]? with
   |some o=>⟨o.k= .dead/\o.es=[],.ptr h 1 0 0,s.hp.set h ⟨.loc,zero.length,[zero]⟩⟩
   |none=>no
 | .rk _ _=>no
 | .tk _ _ _=>no
 | .rd _=>no
 | .rz _ _=>no
 | .to _ _=>no
def aS.kind:aS->Nat
 | .akE _| .acA _| .mv _| .pick .. | .bin .. | .beq .. | .aeq .. | .un .. | .conv .. | .agK _| .Fv .. | .field .. | .index .. | .wR .. | .build .. | .extract .. | .uy .. | .Za .. | .acz .. =>0
 | .Fx .. | .b2s _| .PL .. | .len _| .load .. | .pY .. | .pZ .. | .me .. | .slice .. | .p9 _=>1
 | .p8 .. | .qt .. | .v7 .. | .mvf _=>2
 | .alloc _| .box _| .make .. | .uz .. | .H8=>4
 | .ux .. =>5
 |_=>3
def Ot(o:Option Nat)(hp cJ:List ak):Prop:=∀h,h<hp.length->o≠some h->cJ[h]? =hp[h]?
def Low(lo:Nat):Option ak->Option ak->Prop
 |some x,some y=>y.k=x.k/\y.z=x.z/\y.es.length=x.es.length/\∀i,(y.es.getD i []).length=(x.es.getD i []).length/\(y.es.getD i []).take lo=(x.es.getD i []).take lo
 |none,none=>True
 |_,_=>False
def alg(o:Option Nat)(lo:Nat)(hp cJ:List ak):Prop:=∀h,(o≠some h->cJ[h]? =hp[h]?)/\(o=some h->Low lo hp[h]? cJ[h]?)
def wT(lo:Nat)(fr:List (Nat×DV)):aS->Prop
 | .load none x=>match x.ev fr with| .ptr _ _ _ j=>j<lo|_=>True
 | .load (some n) x=>match x.ev fr with| .ptr _ _ _ j=>j+n<=lo|_=>True
 | .p9 _| .pY _ _| .len _| .pZ _ _ _| .me _ _ _ _=>True
 |_=>False
def acm:DV->DV->Prop
 | .ptr h _ _ _,.ptr h' _ _ _=>h≠h'
 | .ptr h _ _ _,.own h' _ _ _=>h≠h'
 | .own h _ _ _,.ptr h' _ _ _=>h≠h'
 | .own h _ _ _,.own h' _ _ _=>h≠h'
 | .agg [.ptr h _ _ _],.ptr h' _ _ _=>h≠h'
 | .agg [.ptr h _ _ _],.own h' _ _ _=>h≠h'
 | .ptr h _ _ _,.agg [.ptr h' _ _ _]=>h≠h'
 | .own h _ _ _,.agg [.ptr h' _ _ _]=>h≠h'
 | .agg [.ptr h _ _ _],.agg [.ptr h' _ _ _]=>h≠h'
 | .mp h,.mp h'=>h≠h'
 | .mp h,.ptr h' _ _ _=>h≠h'
 | .mp h,.own h' _ _ _=>h≠h'
 | .mp h,.agg [.ptr h' _ _ _]=>h≠h'
 | .ptr h _ _ _,.mp h'=>h≠h'
 | .own h _ _ _,.mp h'=>h≠h'
 | .agg [.ptr h _ _ _],.mp h'=>h≠h'
 |_,_=>True
def Lz:List (Nat×Nat)->List (Nat×DV)->Prop
 |[],_=>True
 |(a,b)::r,fr=>acm (get a fr) (get b fr)/\Lz r fr
def OW(z:Nat)(hp:List ak)(d:DV):Prop:=
 match uT d with
 |some h=>match hp[h]? with
  |some o=>o.k≠ .dead/\o.z≠z
  |none=>False
 |none=>True
def Mz(z:Nat)(s:DS):aS->Prop
 | .load _ (.t n)| .pY _ (.t n)| .p9 (.t n)| .len (.t n)=>OW z s.hp (get n s.fr)
 | .pZ _ (.t n) _| .me _ _ (.t n) _=>OW z s.hp (get n s.fr)
 |_=>False
open Classical in
noncomputable def aC(C:jL)(op:aS)(s:DS):sj:=
 match op with
 | .im d=>⟨d.kind=1/\(aw C d ⟨s.fr,[]⟩).pre,(aw C d ⟨s.fr,[]⟩).val,s.hp⟩
 | .rk lo d=>⟨(aw C d s).pre/\wT lo s.fr d/\(aw C d s).hp=s.hp,(aw C d s).val,s.hp⟩
 | .tk b lo d=>⟨(aw C d s).pre/\alg (uT (get b s.fr)) lo s.hp (aw C d s).hp,(aw C d s).val,(aw C d s).hp⟩
 | .fz d=>⟨(aw C d s).pre/\(iq (aw C d s).hp (aw C d s).val).pre,(iq (aw C d s).hp (aw C d s).val).val,(iq (aw C d s).hp (aw C d s).val).hp⟩
 | .rd d=>⟨(aw C d s).pre/\(aw C d s).hp=s.hp,(aw C d s).val,s.hp⟩
 | .rz z d=>⟨(aw C d s).pre/\Mz z s d,(aw C d s).val,s.hp⟩
 | .to b d=>⟨(aw C d s).pre/\Ot (uT (get b s.fr)) s.hp (aw C d s).hp,(aw C d s).val,(aw C d s).hp⟩
 |d=>aw C d s
def DS.put(s:DS)(dst:Option Nat)(r:sj):DS:=
 match dst with
 |some d=>⟨(d,r.val)::s.fr,r.hp⟩
 |none=>⟨s.fr,r.hp⟩
def pK(C:jL)(o:ae)(s:DS)(K:DS->Prop):Prop:=
 match o.guard with
 |none=>(aC C o.op s).pre/\K (s.put o.dst (aC C o.op s))
 |some (g,b)=>
  match get g s.fr with
  | .bool b'=>if b'=b then(aC C o.op s).pre/\K (s.put o.dst (aC C o.op s))else K (s.put o.dst ⟨True,.cy [],s.hp⟩)
  | .cy []=>K (s.put o.dst ⟨True,.cy [],s.hp⟩)
  |_=>False
def lG(C:jL):List ae->DS->(DS->Prop)->Prop
 |[],s,K=>K s
 |o::r,s,K=>pK C o s (λs'=>lG C r s' K)
inductive au where
 |skip
 |ops (draw:Bool) (l:List ae)
 |MR (gg:List (Nat×Nat)) (l:List (Nat×ae))
 |MQ (l:List (Nat×ae))
 |seq (a b:au)
 |cond (c:DA) (a b:au)
 |block (id:Nat) (c:au)
 |loop (live:List Nat) (m:Option Nat) (c:au)
 |H7 (t off z:Nat) (c:au)
 |scope (c:au)
 |qu (live:List Nat) (m:Option Nat) (g:DA) (ps:List Nat) (Ib c:au)
 |rsv (c:au)
 |bad
 |cut (live:List Nat) (m:Option Nat) (c:au)
 |exit (id:Nat)
 |ret
inductive cq where
 |normal
 |exit (id:Nat)
 |ret
mutual
def DV.rR(m:Nat):DV->Bool
 | .own h _ _ _=>h<m
 | .ptr h _ _ _=>h<m
 | .mp h=>h<m
 | .agg cs=>DV.HH m cs
 | .cy cs=>DV.HH m cs
 | .clo _ cs=>DV.HH m cs
 | .zY _ cs=>DV.HH m cs
 |_=>true
def DV.HH(m:Nat):List DV->Bool
 |[]=>true
 |d::r=>d.rR m&&DV.HH m r
end
def DV.cut(m:Nat)(d:DV):DV:=if d.rR m then d else .undef
def ak.cut(m:Nat)(o:ak):ak:=
 if o.k= .loc then{o with es:=o.es.map λr=>r.map (DV.cut m)}else o
def DS.cut(s:DS)(live:List Nat):Option Nat->DS
 |some m=>⟨live.map λt=>(t,(get t s.fr).cut m),(s.hp.take m).map (ak.cut m)⟩
 |none=>⟨live.map λt=>(t,get t s.fr),s.hp⟩
def cq.then(next:DS->Prop)(Q:cq->DS->Prop):cq->DS->Prop
 | .normal,s=>next s
 |e,s=>Q e s
def cq.inBlock(id:Nat)(Q:cq->DS->Prop):cq->DS->Prop
 | .exit id',s=>if id'=id then Q .normal s else Q (.exit id') s
 |e,s=>Q e s
def cq.only(next:DS->Prop):cq->DS->Prop
 | .normal,s=>next s
 |_,_=>False
def gj(hp:List ak):List DV->Prop×List DV×List ak
 |[]=>(True,[],hp)
 | .ptr h L i j::r=>
   match hp[h]? with
   |some o=>(o.k= .loc/\o.es.length=1/\L=1/\i=0/\j=0/\(∀d∈o.es.getD 0 [],d.aY=true)/\r.all DV.aY=true,.agg (o.es.getD 0 [])::r,hp.set h {o with k:= .dead})
   |none=>(False,[],hp)
 |d::r=>(d.aY=true/\(gj hp r).1,d::(gj hp r).2.1,(gj hp r).2.2)
theorem Qo(hp):∀(caps:List DV),caps.all DV.aY=true->gj hp caps=(True,caps,hp)
 |[],_=>rfl
 |d::r,h=>by simp only[List.all_cons,Bool.and_eq_true]at h;have ih:=Qo hp r h.2;cases d<;>first|(simp[DV.aY]at h;done)|simp[gj,ih,DV.aY]
def jy:List DV->List DV×List ak
 |[]=>([],[])
 | .agg row::r=>(.ptr 0 1 0 0::r,[⟨.loc,row.length,[row]⟩])
 |d::r=>(d::(jy r).1,(jy r).2)
theorem TC:∀(caps:List DV),caps.all DV.aY=true->jy caps=(caps,[])
 |[],_=>rfl
 |d::r,h=>by simp only[List.all_cons,Bool.and_eq_true]at h;have ih:=TC r h.2;cases d<;>first|(simp[DV.aY]at h;done)|simp[jy,ih]
theorem TE:∀(caps:List DV),(jy caps).1.length=caps.length
 |[]=>rfl
 |d::r=>by cases d<;>simp[jy,TE r]
def gO(C:jL)(h0:Nat):au->(cq->DS->Prop)->DS->Prop
 | .skip,Q,s=>Q .normal s
 | .ops _ l,Q,s=>lG C l s (Q .normal)
 | .MR gg l,Q,s=>Lz gg s.fr/\lG C (l.map (·.2)) s (Q .normal)
 | .MQ l,Q,s=>lG C (l.map (·.2)) s (Q .normal)
 | .seq a b,Q,s=>gO C h0 a (cq.then (gO C h0 b Q) Q) s
 | .cond c a b,Q,s=>
   match c.ev s.fr with
   | .bool t=>(t=true->gO C h0 a Q s)/\(t=false->gO C h0 b Q s)
   | .FC=>gO C h0 a Q s/\gO C h0 b Q s
   |_=>False
 | .block id c,Q,s=>gO C h0 c (cq.inBlock id Q) s
 | .loop live m c,Q,s=>(match m with|some k=>h0<=k|none=>True)/\∃(I:DS->Prop) (μ:DS->Nat),I (s.cut live m)/\
  ∀s',I s'->gO C h0 c (cq.then (λTf=>I (Tf.cut live m)/\μ (Tf.cut live m)<μ s') Q) s'
 | .H7 t off z c,Q,s=>match get t s.fr with
   | .ptr h L i j=>match s.hp[h]? with
     |some o=>((o.k= .loc/\o.es.length=L/\i<L/\(o.es.getD i [])[j+off]? =some .nil)/\
      gO C h0 c Q ⟨s.fr,s.hp.set h {o with es:=o.es.set i ((o.es.getD i []).set (j+off) (.own s.hp.length 0 0 0))}++[⟨.aN,z,[]⟩]⟩)\/gO C h0 c Q s
     |none=>False
   |_=>False
 | .scope c,Q,s=>gO C h0 c Q s
 | .qu live m g ps Ib c,Q,s=>(match m with|some k=>h0<=k|none=>True)/\
  match g.ev s.fr with
  | .clo f caps=>(C.i f (gj (s.cut live m).hp caps).2.1).1/\(gj (s.cut live m).hp caps).1/\∃I:Nat->List ak->Prop,I 0 (gj (s.cut live m).hp caps).2.2/\
   (∀k x hp,I k hp->(C.i f (gj (s.cut live m).hp caps).2.1).2[k]? =some x->x.length=ps.length/\
    gO C hp.length Ib (cq.only λs1=>gO C s1.hp.length c (cq.then (λs'=>I (k+1) (s'.cut [] m).hp) (λe s'=>Q e ⟨(s.cut live m).fr,s'.hp⟩)) s1) ⟨ps.zip x++(s.cut live m).fr,hp⟩)/\
   ∀hp,I (C.i f (gj (s.cut live m).hp caps).2.1).2.length hp->Q .normal ⟨(s.cut live m).fr,hp⟩
  |_=>False
 | .rsv c,Q,s=>gO C h0 c Q ⟨s.fr,s.hp++[⟨.dead,0,[]⟩]⟩
 | .bad,_,_=>False
 | .cut live m c,Q,s=>(match m with|some k=>h0<=k|none=>True)/\gO C h0 c Q (s.cut live m)
 | .exit id,Q,s=>Q (.exit id) s
 | .ret,Q,s=>Q .ret s
end
end Go.Nk
set_option linter.all false
namespace Go.Nk
open Go.RowKit
structure Env where
 X:(Nat->Prop)->World->Prop
 mono:∀(F F':Nat->Prop) (w w':World),X F w->(∀b,F b->w'.heap[b]? =w.heap[b]?)->(∀b,F b->F' b)->X F' w'
def Env.none:Env:=⟨λ_ _=>True,λ_ _ _ _ _ _ _=>trivial⟩
def Env.mf(P:Program)(name:String)(k:IntKind)(zs:List Int):Env where
 X F w:=∃g c,P.globalNamed name=some g/\F g/\w.heap[g]? =some c/\match c with| .cells cs _ _=>cs=(zs.map λz=>Value.int k z).toArray|_=>False
 mono:=λ_ _ _ _ ⟨g,c,h1,h2,h3,h4⟩ hk hm=>⟨g,c,h1,hm g h2,(hk g h2).trans h3,h4⟩
def XF [Inhabited Env](F:Nat->Prop)(w:World):Prop:=(default:Env).X F w
theorem XF.mono [Inhabited Env]{F F'}{w w':World}(h:XF F w)(h1:∀b,F b->w'.heap[b]? =w.heap[b]?)(h2:∀b,F b->F' b):XF F' w':=(default:Env).mono _ _ _ _ h h1 h2
def Sa(w:World)(g:Nat):Nat:=match w.heap[g]? with|some (.cells c _ _)=>c.size|_=>0
inductive bY(F:Nat->Prop)(w:World):DV->Value->Prop
 |int (k n):bY F w (.int k n) (.int k n)
 |bool (b):bY F w (.bool b) (.bool b)
 |str (s):bY F w (.str s) (.string ⟨s.toArray⟩)
 |nil:bY F w .nil (.slice none 0 0)
 |Ia:bY F w .Ia (.pointer none)
 |sl (es:List (List DV)) (A:Option Addr) (n c:Nat) (a:Addr) (z:Nat) (cv:Nat->Nat->Value)
  (hn:n=es.length) (hnc:n<=c) (hA:es≠[]->A=some a/\a.spot=none/\F a.block) (hz:∀(i:Nat) (e:List DV),es[i]? =some e->e.length=z)
  (hc:∀i j d,cellAt es i j=some d->w.cell? ⟨a.block,a.off+(i*z+j),none⟩=some (cv i j)/\d.one=true)
  (hr:∀i j d,cellAt es i j=some d->bY F w d (cv i j)):bY F w (.sl es) (.slice A n c)
 |ref (cs:List DV) (a:Addr) (cv:Nat->Value) (hs:a.spot=none) (hF:F a.block)
  (hc:∀j d,cs[j]? =some d->w.cell? ⟨a.block,a.off+j,none⟩=some (cv j)/\d.one=true)
  (hr:∀(j:Nat) (d:DV),cs[j]? =some d->bY F w d (cv j)):bY F w (.ref cs) (.pointer (some a))
 |clo (f) (cs:List DV) (vs:Array Value) (hl:cs.length=vs.size) (vv:Nat->Value) (hv:∀(j:Nat) (d:DV),cs[j]? =some d->vs[j]? =some (vv j)) (hr:∀(j:Nat) (d:DV),cs[j]? =some d->bY F w d (vv j)):bY F w (.clo f cs) (.func (.func f) #[] vs)
 |FC (b):bY F w .FC (.bool b)
 |Qm (l):bY F w (.Qm l) (.func (.yield l) #[] #[])
 |ifc (t d v) (h:bY F w d v):bY F w (.ifc t d) (.iface t v)
def awh(σ:Nat->Option Nat)(w:World)(z h off len:Nat)(v:Value):Prop:=
 ∃A cap,v= .slice A len cap/\len<=cap/\(cap=0\/∃g,σ h=some g/\A=some ⟨g,off*z,none⟩/\(off+cap)*z<=Sa w g)
inductive aB(F:Nat->Prop)(σ:Nat->Option Nat)(hp:List ak)(w:World):DV->Value->Prop
 |undef (v):aB F σ hp w .undef v
 |aN {d v} (h:bY F w d v):aB F σ hp w d v
 |own (h L off len v) (h1:v.oneCell'=true) (hh:h<hp.length)
  (ho:∀o,hp[h]? =some o->L<=o.es.length/\(o.k≠ .dead->o.es.length=L->awh σ w o.z h off len v)):aB F σ hp w (.own h L off len) v
 |ptr (h L i j v) (h1:v.oneCell'=true) (hh:h<hp.length)
  (ho:∀o,hp[h]? =some o->L<=o.es.length/\(o.k≠ .dead->o.es.length=L->∃g,σ h=some g/\v= .pointer (some ⟨g,i*o.z+j,none⟩))):aB F σ hp w (.ptr h L i j) v
 |mp (h v) (h1:v.oneCell'=true) (hh:h<hp.length)
  (ho:∀o,hp[h]? =some o->o.k≠ .dead->o.es.length=0->∃g,σ h=some g/\v= .map (some g)):aB F σ hp w (.mp h) v
 |agg (cs:List DV) (vs:Array Value) (hl:cs.length=vs.size) (vv:Nat->Value) (hv:∀(j:Nat) (d:DV),cs[j]? =some d->vs[j]? =some (vv j)) (hr:∀(j:Nat) (d:DV),cs[j]? =some d->aB F σ hp w d (vv j)):aB F σ hp w (.agg cs) (.agg vs)
 |cy (cs:List DV) (vs:Array Value) (hl:cs.length=vs.size) (vv:Nat->Value) (hv:∀(j:Nat) (d:DV),cs[j]? =some d->vs[j]? =some (vv j)) (hr:∀(j:Nat) (d:DV),cs[j]? =some d->aB F σ hp w d (vv j)):aB F σ hp w (.cy cs) (.tuple vs)
 |clo (f) (cs:List DV) (vs:Array Value) (hl:cs.length=vs.size) (vv:Nat->Value) (hv:∀(j:Nat) (d:DV),cs[j]? =some d->vs[j]? =some (vv j)) (hr:∀(j:Nat) (d:DV),cs[j]? =some d->aB F σ hp w d (vv j)):aB F σ hp w (.clo f cs) (.func (.func f) #[] vs)
 |zY (f) (cs:List DV) (vs:Array Value) (hl:cs.length=vs.size) (vv:Nat->Value) (hv:∀(j:Nat) (d:DV),cs[j]? =some d->vs[j]? =some (vv j)) (hr:∀(j:Nat) (d:DV),cs[j]? =some d->aB F σ hp w d (vv j)):aB F σ hp w (.zY f cs) (.func (.func f) vs #[])
def Blk(w:World)(g z:Nat)(es:List (List DV))(R:DV->Value->Prop):Prop:=
 ∃c ty,w.heap[g]? =some (.cells c ty (0,0))/\es.length*z<=c.size/\(∀(i:Nat) (e:List DV),es[i]? =some e->e.length=z)/\
  ∀i j d,cellAt es i j=some d->∃v,c[i*z+j]? =some v/\R d v
def ahi(w:World)(g:Nat)(es:List (List UInt8×DV))(R:DV->Value->Prop):Prop:=
 ∃(c:Array MapEntry) (n:Nat),w.heap[g]? =some (.map c n)/\c.size=es.length/\
  ∀(i:Nat) (x:List UInt8×DV),es[i]? =some x->∃e,c[i]? =some e/\e.key= .string ⟨x.1.toArray⟩/\R x.2 e.val
def fT(K F:Nat->Prop)(σ:Nat->Option Nat)(hp:List ak)(w:World)(h:Nat)(o:ak):Prop:=
 match o.k with
 | .dead=>True
 | .aN=>(o.es=[]/\σ h=none)\/∃g,σ h=some g/\¬F g/\¬K g/\Blk w g o.z o.es (λd v=>bY F w d v/\d.one=true)
 | .sY=>(o.es=[]/\σ h=none)\/∃g,σ h=some g/\F g/\Blk w g o.z o.es (λd v=>bY F w d v/\d.one=true)
 | .loc=>∃g,σ h=some g/\¬F g/\¬K g/\Blk w g o.z o.es (λd v=>aB F σ hp w d v)
 | .mp es=>(o.es=[]/\o.z=0)/\∃g,σ h=some g/\¬F g/\¬K g/\ahi w g es (λd v=>bY F w d v/\∃l,d= .sl l)
def Kd.mut(k:Kd):Prop:=k= .aN\/k= .loc\/∃es,k= .mp es
structure bF [Inhabited Env](K F:Nat->Prop)(σ:Nat->Option Nat)(hp:List ak)(w:World):Prop where
 obj:∀h o,hp[h]? =some o->fT K F σ hp w h o
 inj:∀h h' o o' g,hp[h]? =some o->o.k.mut->hp[h']? =some o'->o'.k.mut->σ h=some g->σ h'=some g->h=h'
 fb:∀b,F b->b<w.heap.size
 kb:∀b,K b->b<w.heap.size
 mf:XF F w
structure iw(K F:Nat->Prop)(w:World)(F':Nat->Prop)(w':World):Prop where
 os:w'.os=w.os
 tape:w'.tape=w.tape
 output:w'.output=w.output
 size:w.heap.size<=w'.heap.size
 qa:∀b,K b->w'.heap[b]? =w.heap[b]?
 bS:∀b,F b->w'.heap[b]? =w.heap[b]?
 mono:∀b,F b->F' b
 new:∀b,F' b->F b\/¬K b
theorem iw.refl(K F)(w):iw K F w F w:=
 ⟨rfl,rfl,rfl,Nat.le_refl _,λ_ _=>rfl,λ_ _=>rfl,λ_ h=>h,λ_ h=> .inl h⟩
theorem iw.trans{K F F' F''}{w w' w''}(h:iw K F w F' w')(k:iw K F' w' F'' w''):iw K F w F'' w'':=
 ⟨k.os.trans h.os,k.tape.trans h.tape,k.output.trans h.output,Nat.le_trans h.size k.size,λb hb=>(k.qa b hb).trans (h.qa b hb),
  λb hb=>(k.bS b (h.mono b hb)).trans (h.bS b hb),λb hb=>k.mono b (h.mono b hb),λb hb=>(k.new b hb).elim (h.new b) .inr⟩
structure HM(F:Nat->Prop)(σ:Nat->Option Nat)(hp:List ak)(w:World)(F':Nat->Prop)(σ':Nat->Option Nat)(cJ:List ak)(w':World):Prop where
 mono:∀b,F b->F' b
 bS:∀b,F b->w'.heap[b]? =w.heap[b]?
 len:hp.length<=cJ.length
 ob:∀h o,hp[h]? =some o->∃o',cJ[h]? =some o'/\o.es.length<=o'.es.length/\
  (o'.k≠ .dead->o'.es.length=o.es.length->o.k≠ .dead/\o'.z=o.z/\σ' h=σ h/\∀g,σ h=some g->Sa w' g=Sa w g)
theorem HM.refl(F)(σ)(hp)(w):HM F σ hp w F σ hp w:=
 ⟨λ_ h=>h,λ_ _=>rfl,Nat.le_refl _,λ_ o ho=>⟨o,ho,Nat.le_refl _,λh _=>⟨h,rfl,rfl,λ_ _=>rfl⟩⟩⟩
theorem HM.trans{F F' F''}{σ σ' σ''}{hp cJ alM}{w w' w''}
 (h:HM F σ hp w F' σ' cJ w') (k:HM F' σ' cJ w' F'' σ'' alM w''):HM F σ hp w F'' σ'' alM w'':=by
 refine⟨λb hb=>k.mono b (h.mono b hb),λb hb=>(k.bS b (h.mono b hb)).trans (h.bS b hb),Nat.le_trans h.len k.len,λi o ho=> ?_⟩;obtain⟨o',ey,hl,hk⟩:=h.ob i o ho;obtain⟨o'',azG,hl',wS⟩:=k.ob i o' ey;refine⟨o'',azG,Nat.le_trans hl hl',λhd he=> ?_⟩;obtain⟨a1,a2,a3,a4⟩:=wS hd (by omega);obtain⟨b1,b2,b3,b4⟩:=hk a1 (by omega);exact⟨b1,a2.trans b2,a3.trans b3,λg hg=>(a4 g (b3.trans hg)).trans (b4 g hg)⟩
def cell_of_heap{w w':World}{a:Addr}(h:w'.heap[a.block]? =w.heap[a.block]?):=show w'.cell? a=_ from World.cell?_of_block h
theorem bY.mono{F F'}{w w':World}(hF:∀b,F b->F' b)(hw:∀b,F b->w'.heap[b]? =w.heap[b]?){d}{v}(h:bY F w d v):bY F' w' d v:=by
 induction h with
 |int k n=>exact .int k n
 |bool b=>exact .bool b
 |str s=>exact .str s
 |nil=>exact .nil
 |Ia=>exact .Ia
 |clo f cs vs hl vv hv hr ih=>exact .clo f cs vs hl vv hv ih
 |FC b=>exact .FC b
 |Qm l=>exact .Qm l
 |ifc t d v h ih=>exact .ifc t d v ih
 |sl es A n c a z cv hn hnc hA hz hc hr ih=>
  refine .sl es A n c a z cv hn hnc (λh=>⟨(hA h).1,(hA h).2.1,hF _ (hA h).2.2⟩) hz (λi j d hd=> ?_) ih;refine⟨?_,(hc i j d hd).2⟩;rw[cell_of_heap (w:=w) (hw _ ?_)]
  ·exact(hc i j d hd).1
  ·refine(hA ?_).2.2;intro he;subst he;simp[cellAt]at hd
 |ref cs a cv hs hFa hc hr ih=>
  exact .ref cs a cv hs (hF _ hFa) (λj d hd=>⟨(cell_of_heap (w:=w) (a:=⟨a.block,a.off+j,none⟩) (hw _ hFa)).trans (hc j d hd).1,(hc j d hd).2⟩) ih
theorem aB.mono{F F'}{σ σ'}{hp cJ}{w w'}(hm:HM F σ hp w F' σ' cJ w'){d}{v}
 (h:aB F σ hp w d v):aB F' σ' cJ w' d v:=by
 induction h with
 |undef v=>exact .undef v
 |aN h=>exact .aN (h.mono hm.mono hm.bS)
 |own h L off len v hv1 hh ho=>
  refine .own h L off len v hv1 (Nat.lt_of_lt_of_le hh hm.len) (λo' ey=> ?_);obtain⟨o,hoo⟩:∃o,hp[h]? =some o:=⟨hp[h],by simp[hh]⟩;obtain⟨o'',h1,hl,hk⟩:=hm.ob h o hoo;rw[ey]at h1;injection h1 with h1;subst h1;obtain⟨hL,hv⟩:=ho o hoo;refine⟨by omega,λhd he=> ?_⟩;obtain⟨a1,a2,a3,a4⟩:=hk hd (by omega);obtain⟨A,cap,e1,e2,e3⟩:=hv a1 (by omega);refine⟨A,cap,e1,e2,e3.imp id λ⟨g,g1,g2,g3⟩=>⟨g,a3.trans g1,by rw[a2];exact g2,by rw[a2,a4 g g1];exact g3⟩⟩
 |ptr h L i j v hv1 hh ho=>
  refine .ptr h L i j v hv1 (Nat.lt_of_lt_of_le hh hm.len) (λo' ey=> ?_);obtain⟨o,hoo⟩:∃o,hp[h]? =some o:=⟨hp[h],by simp[hh]⟩;obtain⟨o'',h1,hl,hk⟩:=hm.ob h o hoo;rw[ey]at h1;injection h1 with h1;subst h1;obtain⟨hL,hv⟩:=ho o hoo;refine⟨by omega,λhd he=> ?_⟩;obtain⟨a1,a2,a3,a4⟩:=hk hd (by omega);obtain⟨g,e1,e2⟩:=hv a1 (by omega);exact⟨g,a3.trans e1,by rw[a2];exact e2⟩
 |mp h v hv1 hh ho=>
  refine .mp h v hv1 (Nat.lt_of_lt_of_le hh hm.len) (λo' ey hd he=> ?_);obtain⟨o,hoo⟩:∃o,hp[h]? =some o:=⟨hp[h],by simp[hh]⟩;obtain⟨o'',h1,hl,hk⟩:=hm.ob h o hoo;rw[ey]at h1;injection h1 with h1;subst h1;obtain⟨a1,a2,a3,a4⟩:=hk hd (by omega);obtain⟨g,e1,e2⟩:=ho o hoo a1 (by omega);exact⟨g,a3.trans e1,e2⟩
 |agg cs vs hl vv hv hr ih=>exact .agg cs vs hl vv hv ih
 |cy cs vs hl vv hv hr ih=>exact .cy cs vs hl vv hv ih
 |clo f cs vs hl vv hv hr ih=>exact .clo f cs vs hl vv hv ih
 |zY f cs vs hl vv hv hr ih=>exact .zY f cs vs hl vv hv ih
section
variable {F:Nat->Prop} {σ:Nat->Option Nat} {hp:List ak} {w:World} {v:Value}
theorem aB.gJ{k:IntKind}{n}(h:aB F σ hp w (.int k n) v):v= .int k n:=by cases h with|aN h=>cases h;rfl
theorem aB.iO{b}(h:aB F σ hp w (.bool b) v):v= .bool b:=by cases h with|aN h=>cases h;rfl
theorem aB.Zz(h:aB F σ hp w .FC v):∃b,v= .bool b:=by cases h with|aN h=>cases h;exact⟨_,rfl⟩
theorem aB.afd{l}(h:aB F σ hp w (.Qm l) v):v= .func (.yield l) #[] #[]:=by cases h with|aN h=>cases h;rfl
theorem aB.ny{s:List UInt8}(h:aB F σ hp w (.str s) v):v= .string ⟨s.toArray⟩:=by cases h with|aN h=>cases h;rfl
theorem aB.kx(h:aB F σ hp w .nil v):v= .slice none 0 0:=by cases h with|aN h=>cases h;rfl
theorem aB.alV(h:aB F σ hp w .Ia v):v= .pointer none:=by cases h with|aN h=>cases h;rfl
theorem aB.sb{es}(h:aB F σ hp w (.sl es) v):bY F w (.sl es) v:=by cases h with|aN h=>exact h
theorem aB.nz{cs}(h:aB F σ hp w (.ref cs) v):bY F w (.ref cs) v:=by cases h with|aN h=>exact h
theorem aB.qL{h' L off len}(h:aB F σ hp w (.own h' L off len) v):
 h'<hp.length/\∀o,hp[h']? =some o->L<=o.es.length/\(o.k≠ .dead->o.es.length=L->awh σ w o.z h' off len v):=by
 cases h with
 |aN h=>cases h
 |own _ _ _ _ _ _ hh ho=>exact⟨hh,ho⟩
theorem aB.B7{h' L i j}(h:aB F σ hp w (.ptr h' L i j) v):
 h'<hp.length/\∀o,hp[h']? =some o->L<=o.es.length/\(o.k≠ .dead->o.es.length=L->∃g,σ h'=some g/\v= .pointer (some ⟨g,i*o.z+j,none⟩)):=by
 cases h with
 |aN h=>cases h
 |ptr _ _ _ _ _ _ hh ho=>exact⟨hh,ho⟩
theorem aB.asI{h'}(h:aB F σ hp w (.mp h') v):
 h'<hp.length/\∀o,hp[h']? =some o->o.k≠ .dead->o.es.length=0->∃g,σ h'=some g/\v= .map (some g):=by
 cases h with
 |aN h=>cases h
 |mp _ _ _ hh ho=>exact⟨hh,ho⟩
theorem aB.ao6{t}{d}(h:aB F σ hp w (.ifc t d) v):∃u,v= .iface t u/\bY F w d u:=by cases h with|aN h=>cases h with|ifc _ _ u h=>exact⟨u,rfl,h⟩
theorem aB.pN{cs:List DV}(h:aB F σ hp w (.agg cs) v):∃vs:Array Value,v= .agg vs/\cs.length=vs.size/\∀(j:Nat) (d:DV),cs[j]? =some d->∃u,vs[j]? =some u/\aB F σ hp w d u:=by
 cases h with
 |aN h=>cases h
 |agg _ vs hl vv hv hr=>exact⟨vs,rfl,hl,λj d hd=>⟨vv j,hv j d hd,hr j d hd⟩⟩
theorem aB.Ik{cs:List DV}(h:aB F σ hp w (.cy cs) v):∃vs:Array Value,v= .tuple vs/\cs.length=vs.size/\∀(j:Nat) (d:DV),cs[j]? =some d->∃u,vs[j]? =some u/\aB F σ hp w d u:=by
 cases h with
 |aN h=>cases h
 |cy _ vs hl vv hv hr=>exact⟨vs,rfl,hl,λj d hd=>⟨vv j,hv j d hd,hr j d hd⟩⟩
theorem aB.B8{f}{cs:List DV}(h:aB F σ hp w (.clo f cs) v):∃vs:Array Value,v= .func (.func f) #[] vs/\cs.length=vs.size/\∀(j:Nat) (d:DV),cs[j]? =some d->∃u,vs[j]? =some u/\aB F σ hp w d u:=by
 cases h with
 |aN h=>
  cases h with
  |clo _ _ vs hl vv hv hr=>exact⟨vs,rfl,hl,λj d hd=>⟨vv j,hv j d hd,.aN (hr j d hd)⟩⟩
 |clo _ _ vs hl vv hv hr=>exact⟨vs,rfl,hl,λj d hd=>⟨vv j,hv j d hd,hr j d hd⟩⟩
theorem aB.Qe{f}{cs:List DV}(h:aB F σ hp w (.zY f cs) v):∃vs:Array Value,v= .func (.func f) vs #[]/\cs.length=vs.size/\∀(j:Nat) (d:DV),cs[j]? =some d->∃u,vs[j]? =some u/\aB F σ hp w d u:=by
 cases h with
 |aN h=>cases h
 |zY _ _ vs hl vv hv hr=>exact⟨vs,rfl,hl,λj d hd=>⟨vv j,hv j d hd,hr j d hd⟩⟩
theorem ZT{R:DV->Value->Prop}{cs:List DV}{vs:Array Value}(h:∀(j:Nat) (d:DV),cs[j]? =some d->∃u,vs[j]? =some u/\R d u):
 ∃vv:Nat->Value,(∀(j:Nat) (d:DV),cs[j]? =some d->vs[j]? =some (vv j))/\∀(j:Nat) (d:DV),cs[j]? =some d->R d (vv j):=by
 refine⟨λj=>(vs[j]?).getD (.tuple #[]),λj d hd=> ?_,λj d hd=> ?_⟩
 ·obtain⟨u,hu,_⟩:=h j d hd;simp[hu]
 ·obtain⟨u,hu,hr⟩:=h j d hd;simpa[hu]using hr
theorem aB.uB{cs:List DV}{vs:Array Value}(hl:cs.length=vs.size)(h:∀(j:Nat) (d:DV),cs[j]? =some d->∃u,vs[j]? =some u/\aB F σ hp w d u):aB F σ hp w (.agg cs) (.agg vs):=by obtain⟨vv,h1,h2⟩:=ZT h;exact .agg cs vs hl vv h1 h2
theorem aB.KH{cs:List DV}{vs:Array Value}(hl:cs.length=vs.size)(h:∀(j:Nat) (d:DV),cs[j]? =some d->∃u,vs[j]? =some u/\aB F σ hp w d u):aB F σ hp w (.cy cs) (.tuple vs):=by obtain⟨vv,h1,h2⟩:=ZT h;exact .cy cs vs hl vv h1 h2
theorem aB.asM{f:FuncId}{cs:List DV}{vs:Array Value}(hl:cs.length=vs.size)(h:∀(j:Nat) (d:DV),cs[j]? =some d->∃u,vs[j]? =some u/\aB F σ hp w d u):aB F σ hp w (.clo f cs) (.func (.func f) #[] vs):=by obtain⟨vv,h1,h2⟩:=ZT h;exact .clo f cs vs hl vv h1 h2
theorem bY.azH(f):bY F w (.clo f []) (.func (.func f) #[] #[]):= .clo f [] #[] rfl (λ_=> .nilFunc) (λj d hd=>by simp at hd) (λj d hd=>by simp at hd)
theorem bY.vZ{d}(h:bY F w d v):v.oneCell'=true:=by cases h<;>rfl
theorem aB.vZ{d:DV}(h:aB F σ hp w d v)(hd:d.one=true):v.oneCell'=true:=by
 cases h with
 |undef=>simp[DV.one]at hd
 |aN h=>exact h.vZ
 |own h' L off len _ h1=>exact h1
 |ptr h' L i j _ h1=>exact h1
 |mp h' _ h1=>exact h1
 |agg=>simp[DV.one]at hd
 |cy=>simp[DV.one]at hd
 |clo=>rfl
 |zY=>rfl
end
end Go.Nk
set_option linter.all false
namespace Go.Nk
open Go.RowKit
def Iv:Value->DV->Bool
 | .int k n,.int k' n'=>decide (k=k')&&decide (n=n')
 | .bool a,.bool b=>a==b
 | .string s,.str l=>s.data.toList==l
 | .slice none 0 0,.nil=>true
 | .slice none 0 0,.sl []=>true
 | .pointer none,.Ia=>true
 |_,_=>false
def jH:List Value->List DV->Bool
 |[],[]=>true
 |v::vs,d::ds=>Iv v d&&jH vs ds
 |_,_=>false
def Cc:List Value->List DV->Bool
 |[],[]=>true
 |v::vs,d::ds=>(match d with| .undef=>true|d=>Iv v d)&&Cc vs ds
 |_,_=>false
def ac7:Value->DV->Bool
 | .agg vs,.agg ds=>jH vs.toList ds
 | .tuple vs,.cy ds=>jH vs.toList ds
 |_,.undef=>true
 |v,d=>Iv v d
def cF:Operand->DA->Bool
 | .tmp t,.t n=>t==n
 | .const v,.c d=>ac7 v d
 | .func f,.c (.clo g [])=>f==g
 |_,.c .undef=>true
 |_,_=>false
def gp:List Operand->List DA->Bool
 |[],[]=>true
 |x::xs,d::ds=>cF x d&&gp xs ds
 |_,_=>false
def KU:Option Operand->Option DA->Bool
 |none,none=>true
 |some x,some d=>cF x d
 |_,_=>false
def isInt(k:IntKind):Option TypeDesc->Bool
 |some (.int k')=>decide (k=k')
 |_=>false
def isStr:Option TypeDesc->Bool
 |some .string=>true
 |_=>false
theorem ZH{k:IntKind}{d}(h:isInt k d=true):d=some (.int k):=by
 unfold isInt at h;split at h
 ·simp at h;subst h;rfl
 ·cases h
theorem Io{d}(h:isStr d=true):d=some .string:=by
 unfold isStr at h;split at h
 ·rfl
 ·cases h
def Qa(P:Program)(t:TypeId):Option (Option Nat):=
 match P.underlying t,P.info? t with
 |some (.struct _),some i=>some (some i.size)
 |some (.array _ _),some i=>some (some i.size)
 |some _,some _=>some none
 |_,_=>none
def FO(P:Program)(e:TypeId)(zero:List DV):Bool:=
 match P.info? e with
 |some i=>match i.zero with
  |some z=>jH z.cells.toList zero&&i.size==zero.length&&decide (0<i.size)&&decide (i.bytes<=32768)&&decide (rZ zero*i.bytes<=281474976710656)
  |none=>false
 |none=>false
def FP(P:Program)(t:TypeId)(z:Nat):Option TypeId:=
 match P.underlying t with
 |some (.slice e)=>match P.info? e with
  |some i=>match i.zero with
   |some zv=>if i.size=z/\0<z/\i.bytes<=32768/\zv.cells.size=z then some e else none
   |none=>none
  |none=>none
 |_=>none
def za:Nat->List (Nat×Operand)->List (Option DA)->Bool
 |_,[],[]=>true
 |i,ps,none::r=>za (i+1) ps r
 |i,(j,x)::ps,some y::r=>j==i&&cF x y&&za (i+1) ps r
 |_,_,_=>false
def FM(place:Nat->Option (Nat×Nat)):List (Nat×Operand)->List (Nat×Nat×DA)->Bool
 |[],[]=>true
 |(i,x)::ps,(off,n,y)::r=>decide (place i=some (off,n))&&cF x y&&FM place ps r
 |_,_=>false
def Iw(P:Program)(t:TypeId)(k:Nat):Bool:=
 match P.underlying t with
 |some (.int _)=>k==0
 |some .bool=>k==1
 |some .string=>k==2
 |_=>false
def mi(P:Program)(nest:TypeId->List Nat->Bool):Nat->List Field->List Nat->Bool
 |_,[],ks=>ks.isEmpty
 |k,f::r,ks=>
  f.offset == k && f.name != "_" &&
  (match Qa P f.type with
   |some none=>(match ks with|n::ns=>Iw P f.type n&&mi P nest (k+1) r ns|[]=>false)
   |some (some n)=>decide (n<=ks.length)&&nest f.type (ks.take n)&&mi P nest (k+n) r (ks.drop n)
   |none=>false)
def aqw(P:Program)(t:TypeId)(ks:List Nat):Bool:=
 match P.underlying t with
 |some (.struct fs)=>mi P (λ_ _=>false) 0 fs.toList ks&& !P.stoodInHeld t
 |_=>false
def FR(P:Program)(t:TypeId)(ks:List Nat):Bool:=
 match P.underlying t with
 |some (.struct fs)=>mi P (aqw P) 0 fs.toList ks&& !P.stoodInHeld t&& !P.eqGuardType P.depth t
 |_=>false
def isEq(neg:Bool)(op:BinOp):Bool:=if neg then decide (op= .neq)else decide (op= .eql)
inductive At where
 |load|store|add|cas
def Qd(P:Program)(t:TypeId):Bool:=
 match P.underlying t with
 |some (.map k e)=>isStr (P.underlying k)&&(match P.info? e with|some i=>(match i.zero with|some (.slice none 0 0)=>true|_=>false)|none=>false)
 |_=>false
def concrete(P:Program)(t:TypeId):Bool:=
 match P.underlying t with
 |some (.interface _)=>false
 |some _=>true
 |none=>false
def Tn(P:Program)(o:Op)(d:aS):Bool:=
 match o,d with
 | .move x,.mv y| .assign x,.mv y=>cF x y
 | .move x,.mvf y| .assign x,.mvf y=>cF x y
 | .move x,.uz _ y| .assign x,.uz _ y=>cF x y
 | .call {callee:= .builtin .cap,args:=xs,argTypes:=ts},.acA y=>gp xs.toList [y]&&(match ts.toList with
  |[t]=>match P.underlying t with|some (.slice _)=>true|_=>false
  |_=>false)
 | .pick c a b,.pick c' a' b'=>cF c c'&&cF a a'&&cF b b'
 | .binOp op _ x y _,.bin op' x' y'=>decide (op=op')&&cF x x'&&cF y y'
 | .binOp op t x y _,.beq n x' y'=>isEq n op&&cF x x'&&cF y y'&&(match P.underlying t with|some .bool=>true|_=>false)
 | .binOp op t x y _,.aeq n m x' y'=>isEq n op&&cF x x'&&cF y y'&&FR P t m
 | .binOp op t x (.const (.slice none 0 0)) _,.PL n x'=>isEq n op&&cF x x'&&(match P.underlying t with|some (.slice _)=>true|_=>false)
 | .unOp op _ x,.un op' x'=>decide (op=op')&&cF x x'
 | .convert s t x,.conv k y=>cF x y&&(P.underlying s).isSome&&isInt k (P.underlying t)
 | .convert s t x,.b2s y=>cF x y&&isStr (P.underlying t)&&(match P.underlying s with
  |some (.slice e)=>isInt .u8 (P.underlying e)
  |_=>false)
 | .call {callee:= .builtin .len,args:=xs,argTypes:=ts},.len y=>gp xs.toList [y]&&(match ts.toList with
  |[t]=>match P.underlying t with|some (.slice _)=>true|_=>false
  |_=>false)
 | .call {callee:= .builtin .len,args:=xs,argTypes:=ts},.agK y=>gp xs.toList [y]&&(match ts.toList with
  |[t]=>isStr (P.underlying t)
  |_=>false)
 | .call {callee:= .builtin .len,args:=xs,argTypes:=ts},.mv (.c (.int .i64 n))=>xs.size==1&&(match ts.toList with
  |[t]=>match P.underlying t with
   |some (.array m _)=>decide (n=m)
   |some (.pointer a)=>match P.underlying a with|some (.array m _)=>decide (n=m)|_=>false
   |_=>false
  |_=>false)
 | .call {callee:= .builtin .max,args:=xs,argTypes:=_},.Fv true x y=>gp xs.toList [x,y]
 | .call {callee:= .builtin .min,args:=xs,argTypes:=_},.Fv false x y=>gp xs.toList [x,y]
 | .load t p,.load sz q=>cF p q&&decide (Qa P t=some sz)
 | .store t p v,.store n q u=>cF p q&&cF v u&&(match P.info? t with|some i=>i.size==n|none=>false)
 | .fieldAddr t p f,.pY off q=>cF p q&&(match P.underlying t with
  |some (.struct fs)=>match fs[f]? with
   |some fl=>fl.offset==off&&(match P.info? fl.type with|some i=>i.size !=0|none=>false)
   |none=>false
  |_=>false)
 | .field t x f,.field off sz y=>cF x y&&(match P.underlying t with
  |some (.struct fs)=>match fs[f]? with
   |some fl=>fl.offset==off&&decide (Qa P fl.type=some sz)
   |none=>false
  |_=>false)
 | .indexAddr t x i,.pZ z y k=>cF x y&&cF i k&&(FP P t z).isSome
 | .indexAddr t x i,.me n z y k=>cF x y&&cF i k&&(match P.underlying t with
  |some (.array m e)=>m==n&&(match P.info? e with|some j=>j.size==z|none=>false)
  |_=>false)
 | .index t x i,.index y k=>cF x y&&cF i k&&isStr (P.underlying t)
 | .slice t x lo hi mx,.wR y l h=>cF x y&&KU lo l&&KU hi h&&mx.isNone&&isStr (P.underlying t)
 | .slice t x lo hi mx,.slice z y l h m=>cF x y&&KU lo l&&KU hi h&&KU mx m&&(FP P t z).isSome
 | .makeSlice t n c,.make zero n' c'=>cF n n'&&cF c c'&&(match P.underlying t with|some (.slice e)=>FO P e zero|_=>false)
 | .buildSlice t n ps,.ux _ zero parts=>n==parts.length&&za 0 ps.toList parts&&decide (n*zero.length<=16777216)&&(match P.underlying t with|some (.slice e)=>FO P e zero|_=>false)
 | .build t ps,.build zero parts=>(match P.info? t with|some i=>(match i.zero with|some z=>Cc z.cells.toList zero|none=>false)|none=>false)&&(match P.underlying t with
  |some (.struct fs)=>fs.toList.all (λf=>(P.info? f.type).isSome)&&FM (λi=>(fs[i]?).bind λf=>(P.info? f.type).map λj=>(f.offset,j.size)) ps.toList parts
  |some (.array _ e)=>match P.info? e with|some j=>FM (λi=>some (i*j.size,j.size)) ps.toList parts|none=>false
  |_=>false)
 | .alloc e,.alloc zero=>(match P.info? e with|some i=>(match i.zero with|some z=>jH z.cells.toList zero|none=>false)|none=>false)
 | .move x,.home _ y| .assign x,.home _ y=>cF x y
 | .call {callee:= .builtin .append,args:=xs,argTypes:=ts},.aoy z zero s x=>gp xs.toList [s,x]&&(match ts.toList with
  |[t,u]=>(FP P t z).isSome&&(match P.underlying u with|some (.int _)=>true|_=>false)&&(match P.underlying t with|some (.slice e)=>FO P e zero|_=>false)
  |_=>false)
 | .alloc e,.aa _ zero=>(match P.info? e with|some i=>(match i.zero with|some z=>jH z.cells.toList zero|none=>false)|none=>false)
 | .box _ x,.box y=>cF x y
 | .box _ x,.akE y=>cF x y
 | .call {callee:= .builtin .append,args:=xs,argTypes:=ts},.append z s x=>gp xs.toList [s,x]&&(match ts.toList with
  |[t,u]=>(FP P t z).isSome&&(match P.underlying u with|some (.slice _)|some .string=>true|_=>false)
  |_=>false)
 | .call {callee:= .builtin .copy,args:=xs,argTypes:=ts},.copy z d x=>gp xs.toList [d,x]&&(match ts.toList with
  |[t,u]=>(FP P t z).isSome&&(match P.underlying u with|some (.slice _)=>true|_=>false)
  |_=>false)
 | .extract x i,.extract i' y=>i==i'&&cF x y
 | .nilCheck x,.p9 y=>cF x y
 | .makeFunc (.func f) fst caps,.uy g ZN=>f==g&&fst.size==0&&gp caps.toList ZN
 | .call {callee:= .value (.func f),args:=xs,argTypes:=_},.p8 g ys=>f==g&&gp xs.toList ys
 | .call {callee:= .value (.func f),args:=xs,argTypes:=_},.v7 g ys=>f==g&&gp xs.toList ys
 | .call {callee:= .value (.func f),args:=xs,argTypes:=_},.S7 g ys=>f==g&&gp xs.toList ys
 | .call {callee:= .value (.func f),args:=xs,argTypes:=_},.ib g ys=>f==g&&gp xs.toList ys
 | .call {callee:= .value (.func f),args:=xs,argTypes:=_},.cl _ _ g ys=>f==g&&gp xs.toList ys
 | .call {callee:= .value (.func f),args:=xs,argTypes:=_},.clo _ _ _ g ys=>f==g&&gp xs.toList ys
 | .call {callee:= .value x,args:=xs,argTypes:=_},.qt g ys=>cF x g&&gp xs.toList ys
 | .call {callee:= .value x,args:=xs,argTypes:=_},.KC g ys=>cF x g&&gp xs.toList ys
 | .makeMap _ none,.H8=>true
 | .lookup t x i ok,.Fx m k=> !ok&&Qd P t&&cF x m&&cF i k
 | .mapUpdate t x i y,.KB m k z| .insert t x i y,.KB m k z=>Qd P t&&cF x m&&cF i k&&cF y z
 | .makeInterface t x,.Za t' y=>t==t'&&concrete P t&&cF x y
 | .typeAssert x _ t ok,.acz t' (.c z) y=>ok&&t==t'&&concrete P t&&(match P.info? t with|some i=>(match i.zero with|some zv=>jH [zv] [z]|none=>false)|none=>false)&&cF x y
 |_,.bad=>true
 |_,_=>false
def Qf(P:Program)(o:Op)(d:aS):Bool:=
 match d with
 | .im d=>decide (d.kind=1)&&Tn P o d
 | .rd d=>Tn P o d
 | .rz _ d=>decide (d.kind=1)&&Tn P o d
 | .fz d=>Tn P o d
 | .rk _ d=>Tn P o d
 | .tk _ _ d=>Tn P o d
 | .to _ d=>Tn P o d
 |d=>Tn P o d
def FH(ops:Array Oper):Option (Nat×Bool)->Option (Nat×Bool)->Bool
 |none,none=>true
 |some (j,b),some (t,b')=>decide ((ops[j]?).bind (·.dst)=some t)&&b==b'
 |_,_=>false
def Ig(P:Program)(N:Nat)(ops:Array Oper)(o:Oper)(d:ae):Bool:=
 Qf P o.op d.op&&decide (o.dst=d.dst)&&(match d.dst with|some t=>decide (t<N)|none=>true)&&FH ops o.guard d.guard
def wU(P:Program)(N:Nat)(ops:Array Oper):List Oper->List ae->Bool
 |[],[]=>true
 |o::r,d::s=>Ig P N ops o d&&wU P N ops r s
 |_,_=>false
end Go.Nk
set_option linter.all false
namespace Go.Nk
open Go.RowKit
section
variable {P:Program} {F:Nat->Prop} {σ:Nat->Option Nat} {hp:List ak} {w:World}
theorem Bv{v}{d}(h:Iv v d=true):bY F w d v:=by
 unfold Iv at h;split at h
 ·simp at h;obtain⟨rfl,rfl⟩:=h;exact .int _ _
 ·simp at h;subst h;exact .bool _
 ·rename_i s l;simp at h;have:s=⟨l.toArray⟩:=by rw[<-h]
  rw[this];exact .str _
 ·exact .nil
 ·exact .sl [] none 0 0 ⟨0,0,none⟩ 0 (λ_ _=> .int .i64 0) rfl (Nat.le_refl _) (λh=>absurd rfl h) (λi e h=>by simp at h) (λi j d h=>by simp[cellAt]at h) (λi j d h=>by simp[cellAt]at h)
 ·exact .Ia
 ·cases h
theorem rA:∀{vs:List Value} {ds:List DV},jH vs ds=true->
 ds.length=vs.length/\∀(j:Nat) (d:DV),ds[j]? =some d->∃u,vs[j]? =some u/\bY F w d u/\d.one=true
 |[],[],_=>⟨rfl,λj d h=>by simp at h⟩
 |v::vs,d::ds,h=>by
  simp only[jH,Bool.and_eq_true]at h;obtain⟨hl,hr⟩:=rA h.2;refine⟨by simp[hl],λj e he=> ?_⟩;cases j with
  |zero=>
   simp at he;subst he;have hi:=Bv (F:=F) (w:=w) h.1;exact⟨v,rfl,hi,by cases hi<;>rfl⟩
  |succ j=>exact hr j e (by simpa using he)
 |[],_::_,h=>by simp[jH]at h
 |_::_,[],h=>by simp[jH]at h
theorem L5:∀{vs:List Value} {ds:List DV},Cc vs ds=true->
 ds.length=vs.length/\∀(j:Nat) (d:DV),ds[j]? =some d->∃u,vs[j]? =some u/\aB F σ hp w d u
 |[],[],_=>⟨rfl,λj d h=>by simp at h⟩
 |v::vs,d::ds,h=>by
  simp only[Cc,Bool.and_eq_true]at h;obtain⟨hl,hr⟩:=L5 h.2;refine⟨by simp[hl],λj e he=> ?_⟩;cases j with
  |zero=>
   simp at he;subst he;refine⟨v,rfl,?_⟩;have h1:=h.1;split at h1
   ·exact .undef _
   ·exact .aN (Bv h1)
  |succ j=>exact hr j e (by simpa using he)
 |[],_::_,h=>by simp[Cc]at h
 |_::_,[],h=>by simp[Cc]at h
theorem ac8{v}{d}(h:ac7 v d=true):aB F σ hp w d v:=by
 unfold ac7 at h;split at h
 ·rename_i vs ds;obtain⟨hl,hr⟩:=rA (F:=F) (w:=w) h;exact aB.uB (by simpa using hl) λj d hd=>by obtain⟨u,hu,hi,_⟩:=hr j d hd;exact⟨u,by simpa using hu,.aN hi⟩
 ·rename_i vs ds;obtain⟨hl,hr⟩:=rA (F:=F) (w:=w) h;exact aB.KH (by simpa using hl) λj d hd=>by obtain⟨u,hu,hi,_⟩:=hr j d hd;exact⟨u,by simpa using hu,.aN hi⟩
 ·exact .undef _
 ·exact .aN (Bv h)
def jq(F:Nat->Prop)(σ:Nat->Option Nat)(hp:List ak)(w:World)(fr:List (Nat×DV))(tmps:Array Value):Prop:=
 ∀n,aB F σ hp w (get n fr) (tmps.getD n undef)
theorem aE{a:Act}{fr}(hf:jq F σ hp w fr a.tmps){x}{d:DA}(h:cF x d=true):aB F σ hp w (d.ev fr) (a.eval x):=by
 unfold cF at h;split at h
 ·simp at h;subst h;exact hf _
 ·exact ac8 h
 ·simp at h;subst h;exact .aN (.azH _)
 ·exact .undef _
 ·cases h
theorem KS{a:Act}{fr}(hf:jq F σ hp w fr a.tmps):∀{xs:List Operand} {ds:List DA},gp xs ds=true->
 ds.length=xs.length/\∀(j:Nat) (d:DV),(ds.map (·.ev fr))[j]? =some d->∃u,(xs.map a.eval)[j]? =some u/\aB F σ hp w d u
 |[],[],_=>⟨rfl,λj d h=>by simp at h⟩
 |x::xs,d::ds,h=>by
  simp only[gp,Bool.and_eq_true]at h;obtain⟨hl,hr⟩:=KS hf h.2;refine⟨by simp[hl],λj e he=> ?_⟩;cases j with
  |zero=>simp at he;subst he;exact⟨_,rfl,aE hf h.1⟩
  |succ j=>exact hr j e (by simpa using he)
 |[],_::_,h=>by simp[gp]at h
 |_::_,[],h=>by simp[gp]at h
theorem awj(op:BinOp)(t)(k:IntKind)(x y)(h:(cS op k x y).1):
 ∃v,(binOp op t (.int k x) (.int k y)).run P w= .ok v w/\bY F w (cS op k x y).2 v:=by
 cases op<;>simp only[cS]at h|- <;>
  first
  |exact h.elim
  |(refine⟨_,?_,bY.int _ _⟩;simp[binOp,Op.intArith,Op.intDiv,Op.intBits,bitsOf,h];done)
  |(refine⟨_,?_,bY.bool _⟩;simp[binOp,Op.intCmp];done)
theorem awk(op:BinOp)(t)(x y:List UInt8)(h:(Vx op x y).1):
 ∃v,(binOp op t (.string ⟨x.toArray⟩) (.string ⟨y.toArray⟩)).run P w= .ok v w/\bY F w (Vx op x y).2 v:=by
 have hs:∀l:List UInt8,(⟨l.toArray⟩:ByteArray).size=l.length:=λl=>by simp[ByteArray.size]
 have abw:(⟨x.toArray⟩:ByteArray)++⟨y.toArray⟩=⟨(x++y).toArray⟩:=by apply ByteArray.ext;simp[ByteArray.data_append]
 cases op<;>simp only[Vx]at h|- <;>
  first
  |exact h.elim
  |(refine⟨_,?_,bY.bool _⟩;simp[binOp,Op.stringOp];done)
  |(refine⟨_,?_,bY.str _⟩
    have h':¬(((x.length:Int)+(y.length:Int))>IntKind.i64.max):=by
     simp only[iI]at h;have:IntKind.i64.max=9223372036854775807:=by decide
     omega
    simp only[binOp,Op.stringOp,hs,Int.natCast_add,if_neg h',abw,Sem.run_pure])
theorem azJ(op:UnOp)(d)(v)(hv:aB F σ hp w d v)(h:(IX op d).1):∃u,(Op.unary op v).run P w= .ok u w/\bY F w (IX op d).2 u:=by
 unfold IX at h|-;split at h
 ·rename_i k n;have:=hv.gJ;subst this;cases op<;>first|exact h.elim|(refine⟨_,?_,bY.int _ _⟩;simp[Op.unary,Op.intArith,Op.intBits,bitsOf];done)
 ·rename_i b;have:=hv.iO;subst this;cases op<;>first|exact h.elim|(refine⟨_,?_,bY.bool _⟩;simp[Op.unary];done)
 ·exact h.elim
def bO{t}{d:TypeDesc}(h:P.underlying t=some d):=show(underlying t).run P w=_ from run_underlying h w
theorem awl{t}(ht:P.underlying t=some .bool)(a b):(Op.equal t (.bool a) (.bool b)).run P w= .ok (a==b) w:=by
 have h:∀n:Nat,(Op.equalIn (n+1) t (.bool a) (.bool b)).run P w= .ok (a==b) w:=λn=>by simp[Op.equalIn,bO ht]
 exact h 9999
theorem awm{t e}(ht:P.underlying t=some (.slice e))(A:Option Addr)(n c):
 (Op.equal t (.slice A n c) (.slice none 0 0)).run P w= .ok A.isNone w:=by
 have h:∀k:Nat,(Op.equalIn (k+1) t (.slice A n c) (.slice none 0 0)).run P w= .ok A.isNone w:=λk=>by cases A<;>simp[Op.equalIn,bO ht]
 exact h 9999
theorem Qp{t}{sz}(iP:Qa P t=some sz){cs:List DV}{vs:Array Value}(hl:cs.length=vs.size)
 (hv:∀(j:Nat) (d:DV),cs[j]? =some d->∃u,vs[j]? =some u/\aB F σ hp w d u) (off) (h:(bA sz (True,cs.drop off)).1):
 ∃u,(part t vs off).run P w= .ok u w/\aB F σ hp w (bA sz (True,cs.drop off)).2 u:=by
 unfold Qa at iP;split at iP
 ·rename_i fs i hu hi;simp at iP;subst iP;simp only[bA,true_and,List.length_drop]at h|-;refine⟨_,by simp[part,isAgg,bO hu,sizeOf,typeInfo,hi];rfl,aB.uB ?_ λj d hd=> ?_⟩
  ·simp;omega
  ·rw[List.getElem?_take]at hd;split at hd
   ·rename_i hj;rw[List.getElem?_drop]at hd;obtain⟨u,Ny,hr⟩:=hv _ _ hd;refine⟨u,?_,hr⟩;rw[Array.getElem?_extract];simp[Ny];omega
   ·cases hd
 ·rename_i fs e i hu hi;simp at iP;subst iP;simp only[bA,true_and,List.length_drop]at h|-;refine⟨_,by simp[part,isAgg,bO hu,sizeOf,typeInfo,hi];rfl,aB.uB ?_ λj d hd=> ?_⟩
  ·simp;omega
  ·rw[List.getElem?_take]at hd;split at hd
   ·rename_i hj;rw[List.getElem?_drop]at hd;obtain⟨u,Ny,hr⟩:=hv _ _ hd;refine⟨u,?_,hr⟩;rw[Array.getElem?_extract];simp[Ny];omega
   ·cases hd
 ·rename_i d i h1 h2 hu hi;simp at iP;subst iP;simp only[bA,true_and,List.length_drop]at h|-;have fM:off<cs.length:=by omega
  obtain⟨u,Ny,hr⟩:=hv off cs[off] (by simp[fM]);have hag:(isAgg t).run P w= .ok false w:=by simp only[isAgg,Sem.run_bind,bO hu,Result.andThen_ok];rfl
  refine⟨u,by simp[part,hag,Ny],?_⟩;have:(cs.drop off).getD 0 .undef=cs[off]:=by simp[fM]
  rw[this];exact hr
 ·cases iP
theorem bY.sb{es:List (List DV)}{v}(h:bY F w (.sl es) v):
 ∃A c z,v= .slice A es.length c/\es.length<=c/\(es≠[]->∃a,A=some a/\a.spot=none/\F a.block/\
  ∀i j d,cellAt es i j=some d->∃u,w.cell? ⟨a.block,a.off+(i*z+j),none⟩=some u/\d.one=true/\bY F w d u)/\
  (∀(i:Nat) (e:List DV),es[i]? =some e->e.length=z):=by
 cases h with
 |sl es A n c a z cv hn hnc hA hz hc hr=>
  subst hn;exact⟨A,c,z,rfl,hnc,λh=>⟨a,(hA h).1,(hA h).2.1,(hA h).2.2,λi j d hd=>⟨_,(hc i j d hd).1,(hc i j d hd).2,hr i j d hd⟩⟩,hz⟩
theorem bY.nz{cs}{v}(h:bY F w (.ref cs) v):
 ∃a,v= .pointer (some a)/\a.spot=none/\F a.block/\∀(j:Nat) (d:DV),cs[j]? =some d->∃u,w.cell? ⟨a.block,a.off+j,none⟩=some u/\d.one=true/\bY F w d u:=by
 cases h with
 |ref cs a cv hs hF hc hr=>exact⟨a,rfl,hs,hF,λj d hd=>⟨_,(hc j d hd).1,(hc j d hd).2,hr j d hd⟩⟩
theorem bY.LZ{z}{es:List (List DV)}{A}{c}(hlc:es.length<=c)(hz:∀(i:Nat) (e:List DV),es[i]? =some e->e.length=z)
 (h:es≠[]->∃a,A=some a/\a.spot=none/\F a.block/\∀i j d,cellAt es i j=some d->∃u,w.cell? ⟨a.block,a.off+(i*z+j),none⟩=some u/\d.one=true/\bY F w d u):
 bY F w (.sl es) (.slice A es.length c):=by
 by_cases he:es=[]
 ·subst he;exact .sl [] A 0 c ⟨0,0,none⟩ z (λ_ _=>undef) rfl (Nat.zero_le _) (λh=>absurd rfl h) hz (λi j d hd=>by simp[cellAt]at hd) (λi j d hd=>by simp[cellAt]at hd)
 ·obtain⟨a,rfl,hs,hF,hc⟩:=h he;refine .sl es (some a) _ c a z (λi j=>(w.cell? ⟨a.block,a.off+(i*z+j),none⟩).getD undef) rfl hlc (λ_=>⟨rfl,hs,hF⟩) hz (λi j d hd=> ?_) (λi j d hd=> ?_)
  ·obtain⟨u,hu,h1,_⟩:=hc i j d hd;simp[hu,h1]
  ·obtain⟨u,hu,_,h1⟩:=hc i j d hd;simpa[hu]using h1
theorem bY.acX{cs}{a:Addr}(hs:a.spot=none)(hF:F a.block)
 (hc:∀(j:Nat) (d:DV),cs[j]? =some d->∃u,w.cell? ⟨a.block,a.off+j,none⟩=some u/\d.one=true/\bY F w d u):bY F w (.ref cs) (.pointer (some a)):=by
 refine .ref cs a (λj=>(w.cell? ⟨a.block,a.off+j,none⟩).getD undef) hs hF (λj d hd=> ?_) (λj d hd=> ?_)
 ·obtain⟨u,hu,h1,_⟩:=hc j d hd;simp[hu,h1]
 ·obtain⟨u,hu,_,h1⟩:=hc j d hd;simpa[hu]using h1
theorem kK{a:Addr}(h:a.spot=none)(n):a.add n=⟨a.block,a.off+n,none⟩:=by
 unfold Addr.add;split
 ·subst_vars;cases a;simp at h;subst h;rfl
 ·rfl
theorem asN{t:TypeId}{sz:Option Nat}(iP:Qa P t=some sz){R:DV->Value->Prop}{cs:List DV}{a:Addr}(hs:a.spot=none)
 (hc:∀(j:Nat) (d:DV),cs[j]? =some d->∃u,w.cell? ⟨a.block,a.off+j,none⟩=some u/\R d u) (h:(bA sz (True,cs)).1):
 ∃u,(loadVar t a).run P w= .ok u w/\(match sz with|none=>∃d,cs[0]? =some d/\R d u|some n=>∃vs:Array Value,u= .agg vs/\vs.size=n/\∀(j:Nat) (d:DV),(cs.take n)[j]? =some d->∃x,vs[j]? =some x/\R d x):=by
 have big:∀n:Nat,n<=cs.length->∃vs:Array Value,(loadCells a n).run P w= .ok vs w/\vs.size=n/\∀(j:Nat) (d:DV),(cs.take n)[j]? =some d->∃x,vs[j]? =some x/\R d x:=by
  intro n hn;have hcell:∀j,j<n->w.cell? (a.add j)=some ((w.cell? (a.add j)).getD undef):=by intro j hj;obtain⟨u,hu,_⟩:=hc j cs[j] (by simp);rw[kK hs,hu];rfl
  have hl:=run_loadCells (P:=P) (w:=w) a n (λj=>(w.cell? (a.add j)).getD undef) hcell;refine⟨_,hl,by simp,λj d hd=> ?_⟩;rw[List.getElem?_take]at hd;split at hd
  ·rename_i hj;obtain⟨u,hu,hr⟩:=hc j d hd;refine⟨u,?_,hr⟩;simp[hj,kK hs,hu]
  ·cases hd
 unfold Qa at iP;split at iP
 ·rename_i fs i hu hi;simp at iP;subst iP;simp only[bA,true_and]at h;obtain⟨vs,h1,h2,h3⟩:=big i.size h;exact⟨.agg vs,by simp[loadVar,isAgg,bO hu,sizeOf,typeInfo,hi,h1],vs,rfl,h2,h3⟩
 ·rename_i n e i hu hi;simp at iP;subst iP;simp only[bA,true_and]at h;obtain⟨vs,h1,h2,h3⟩:=big i.size h;exact⟨.agg vs,by simp[loadVar,isAgg,bO hu,sizeOf,typeInfo,hi,h1],vs,rfl,h2,h3⟩
 ·rename_i d i h1 h2 hu hi;simp at iP;subst iP;simp only[bA,true_and]at h;obtain⟨u,Ny,hr⟩:=hc 0 cs[0] (by simp);have hag:(isAgg t).run P w= .ok false w:=by simp only[isAgg,Sem.run_bind,bO hu,Result.andThen_ok];rfl
  refine⟨u,?_,cs[0],by simp,hr⟩;have:w.cell? a=some u:=by cases a;simp at hs;subst hs;simpa using Ny
  simp[loadVar,hag,this]
 ·cases iP
end
end Go.Nk
set_option linter.all false
namespace Go.Nk
open Go.RowKit
section
variable {P:Program} {K F:Nat->Prop} {σ:Nat->Option Nat} {hp:List ak} {w:World}
theorem uF{w:World}{g}{c:Array Value}{ty}{m}(h:w.heap[g]? =some (.cells c ty m))(n):w.cell? ⟨g,n,none⟩=c[n]? :=by simp[World.cell?,h]
theorem Blk.at_{g z}{es}{R}(h:Blk w g z es R){i j}{d}(hd:cellAt es i j=some d):
 ∃u,w.cell? ⟨g,i*z+j,none⟩=some u/\R d u:=by
 obtain⟨c,ty,hh,_,_,hc⟩:=h;obtain⟨u,hu,hr⟩:=hc i j d hd;exact⟨u,by rw[uF hh];exact hu,hr⟩
theorem Blk.mono{g z}{es}{R R'}{w':World}(h:Blk w g z es R)(hw:w'.heap[g]? =w.heap[g]?)(hR:∀d v,R d v->R' d v):Blk w' g z es R':=by obtain⟨c,ty,hh,h1,h2,hc⟩:=h;exact⟨c,ty,hw.trans hh,h1,h2,λi j d hd=>let⟨v,hv,hr⟩:=hc i j d hd;⟨v,hv,hR _ _ hr⟩⟩
theorem ahi.mono{g}{es}{R R'}{w':World}(h:ahi w g es R)(hw:w'.heap[g]? =w.heap[g]?)(hR:∀d v,R d v->R' d v):ahi w' g es R':=by obtain⟨c,n,hh,h1,hc⟩:=h;exact⟨c,n,hw.trans hh,h1,λi x hx=>let⟨e,he,hk,hr⟩:=hc i x hx;⟨e,he,hk,hR _ _ hr⟩⟩
theorem ahi.lt{g}{es}{R}(h:ahi w g es R):g<w.heap.size:=by
 obtain⟨c,n,hh,_⟩:=h;rcases Nat.lt_or_ge g w.heap.size with h'|h'
 ·exact h'
 ·rw[Array.getElem?_eq_none h']at hh;cases hh
theorem fT.cells{h}{o:ak}(ho:fT K F σ hp w h o)(hd:o.k≠ .dead)(bw:o.es≠[]):
 ∃g,σ h=some g/\Blk w g o.z o.es (λd v=>aB F σ hp w d v):=by
 unfold fT at ho;split at ho
 ·exact absurd (by assumption) hd
 ·rcases ho with⟨h0,_⟩|⟨g,hg,_,_,hb⟩
  ·exact absurd h0 bw
  ·exact⟨g,hg,hb.mono rfl λd v h=> .aN h.1⟩
 ·rcases ho with⟨h0,_⟩|⟨g,hg,_,hb⟩
  ·exact absurd h0 bw
  ·exact⟨g,hg,hb.mono rfl λd v h=> .aN h.1⟩
 ·obtain⟨g,hg,_,_,hb⟩:=ho;exact⟨g,hg,hb⟩
 ·exact absurd ho.1.1 bw
theorem fT.alY{h}{o:ak}(ho:fT K F σ hp w h o)(hd:o.k= .aN\/o.k= .sY)(bw:o.es≠[]):
 ∃g,σ h=some g/\Blk w g o.z o.es (λd v=>bY F w d v/\d.one=true):=by
 unfold fT at ho;rcases hd with hd|hd<;>rw[hd]at ho<;>dsimp only at ho
 ·rcases ho with⟨h0,_⟩|⟨g,hg,_,_,hb⟩
  ·exact absurd h0 bw
  ·exact⟨g,hg,hb⟩
 ·rcases ho with⟨h0,_⟩|⟨g,hg,_,hb⟩
  ·exact absurd h0 bw
  ·exact⟨g,hg,hb⟩
theorem Ma{es:List (List DV)}{i j k}{d}(h:((es.getD i []).drop j)[k]? =some d):cellAt es i (j+k)=some d:=by
 rw[List.getElem?_drop]at h;unfold cellAt;cases he:es[i]? with
 |none=>simp[List.getD,he]at h
 |some e=>simpa[List.getD,he]using h
theorem LX [Inhabited Env](hs:bF K F σ hp w){d}{v}(hv:aB F σ hp w d v)(h:(aI hp d).1):
 ∃a,v= .pointer (some a)/\a.spot=none/\∀(j:Nat) (e:DV),(aI hp d).2[j]? =some e->∃u,w.cell? ⟨a.block,a.off+j,none⟩=some u/\aB F σ hp w e u:=by
 unfold aI at h|-;split at h
 ·rename_i cs;obtain⟨a,rfl,h1,h2,h3⟩:=hv.nz.nz;exact⟨a,rfl,h1,λj e he=>let⟨u,hu,_,hr⟩:=h3 j e he;⟨u,hu,.aN hr⟩⟩
 ·rename_i h' L i j;obtain⟨hh,ho⟩:=hv.B7;cases cD:hp[h']? with
  |none=>simp[cD]at h
  |some o=>
   simp only[cD]at h|-;split at h
   ·exact h.elim
   ·rename_i hk;simp only[if_neg hk];obtain⟨hL,hi⟩:=h;obtain⟨g,hg,zb⟩:=(ho o cD).2 hk hL;obtain⟨g',kz,hb⟩:=(hs.obj _ _ cD).cells hk (λe=>by rw[e]at hL;simp at hL;omega);rw[hg]at kz;injection kz with kz;subst kz;refine⟨_,zb,rfl,λk e he=> ?_⟩;obtain⟨u,hu,hr⟩:=hb.at_ (Ma he);exact⟨u,by simpa[Nat.add_assoc]using hu,hr⟩
 ·exact h.elim
theorem aeX [Inhabited Env](hs:bF K F σ hp w){t}{sz}(iP:Qa P t=some sz){d}{v}(hv:aB F σ hp w d v)
 (h:(bA sz (aI hp d)).1):∃u,(Instr.loadAt t v).run P w= .ok u w/\aB F σ hp w (bA sz (aI hp d)).2 u:=by
 have h1:(aI hp d).1:=by cases sz<;>exact h.1
 obtain⟨a,rfl,um,hc⟩:=LX hs hv h1;obtain⟨u,hu,hr⟩:=asN (P:=P) iP um hc (by cases sz<;>exact⟨trivial,h.2⟩);refine⟨u,by simp[Instr.loadAt,Instr.sureAddr,hu],?_⟩;cases sz with
 |none=>
  obtain⟨d0,h0,hr⟩:=hr;have:(aI hp d).2.getD 0 .undef=d0:=by simp[List.getD,h0]
  simp only[bA,this];exact hr
 |some n=>
  obtain⟨vs,rfl,hn,hr⟩:=hr;exact aB.uB (by simp[hn];exact Nat.min_eq_left h.2) hr
theorem KV{α}(l:List α)(off len)(h:off+len<=l.length):((l.drop off).take len).length=len:=by simp;omega
theorem KW{es:List (List DV)}{off len i j}{d}(h:cellAt ((es.drop off).take len) i j=some d):cellAt es (off+i) j=some d:=by
 unfold cellAt at h|-;rw[List.getElem?_take]at h;split at h
 ·rwa[List.getElem?_drop]at h
 ·simp at h
theorem rq [Inhabited Env](hs:bF K F σ hp w){d}{v}(hv:aB F σ hp w d v)(h:(bf hp d).pre)(R0:∀s,d≠ .str s):
 ∃A c z,v= .slice A (bf hp d).es.length c/\(bf hp d).es.length<=c/\(∀(i:Nat) (e:List DV),(bf hp d).es[i]? =some e->e.length=z)/\
  ((bf hp d).es≠[]->∃a,A=some a/\a.spot=none/\(F a.block\/∃h L off len,d= .own h L off len/\σ h=some a.block)/\
    ∀i j e,cellAt (bf hp d).es i j=some e->∃u,w.cell? ⟨a.block,a.off+(i*z+j),none⟩=some u/\e.one=true/\bY F w e u)/\(A=none->(bf hp d).es=[]):=by
 unfold bf at h|-;split at h
 ·have:=hv.kx;subst this;exact⟨none,0,0,rfl,Nat.le_refl _,λi e he=>by simp at he,λh=>absurd rfl h,λ_=>rfl⟩
 ·rename_i es;obtain⟨A,c,z,rfl,hlc,h1,h2⟩:=hv.sb.sb;refine⟨A,c,z,rfl,hlc,h2,λbw=> ?_,λhA=> ?_⟩
  ·obtain⟨a,e1,e2,e3,e4⟩:=h1 bw;exact⟨a,e1,e2,.inl e3,e4⟩
  ·by_cases bw:es=[]
   ·exact bw
   ·obtain⟨a,e1,_⟩:=h1 bw;rw[hA]at e1;cases e1
 ·rename_i h' L off len;obtain⟨hh,ho⟩:=hv.qL;cases cD:hp[h']? with
  |none=>simp[cD]at h
  |some o=>
   simp only[cD]at h|-;split at h
   ·rename_i hk;simp only[if_pos hk];obtain⟨hL,hlen⟩:=h;have Dc:o.k≠ .dead:=by rcases hk with e|e<;>rw[e]<;>simp
    obtain⟨A,cap,zb,hle,hA⟩:=(ho o cD).2 Dc hL;have hl:((o.es.drop off).take len).length=len:=KV _ _ _ (by omega);have o5:o.es≠[]->∀(i:Nat) (e:List DV),o.es[i]? =some e->e.length=o.z:=λbw=>by obtain⟨g',kz,c',ty,_,_,hz,_⟩:=(hs.obj _ _ cD).alY hk bw;exact hz
    refine⟨A,cap,o.z,by rw[zb,hl],by rw[hl];exact hle,λi e he=> ?_,λbw=> ?_,λhA'=> ?_⟩
    ·have bw:o.es≠[]:=λe'=>by rw[e']at he;simp at he
     rw[List.getElem?_take]at he;split at he
     ·rw[List.getElem?_drop]at he;exact o5 bw _ _ he
     ·cases he
    ·have au8:0<len:=by rw[<-hl];exact List.length_pos_iff.2 bw
     have azL:o.es≠[]:=λe'=>by rw[e']at bw;simp at bw
     rcases hA with h0|⟨g,hg,rfl,Db⟩
     ·omega
     ·obtain⟨g',kz,hb⟩:=(hs.obj _ _ cD).alY hk azL;rw[hg]at kz;injection kz with kz;subst kz;refine⟨_,rfl,rfl,.inr ⟨h',L,off,len,rfl,hg⟩,λi j e he=> ?_⟩;obtain⟨u,hu,hr,h1⟩:=hb.at_ (KW he);refine⟨u,?_,h1,hr⟩;rw[<-hu];congr 2;rw[Nat.add_mul,Nat.add_assoc]
    ·rcases hA with h0|⟨g,hg,rfl,Db⟩
     ·have:len=0:=by omega
      subst this;simp
     ·cases hA'
   ·exact h.elim
 ·rename_i s;exact absurd rfl (R0 s)
 ·exact h.elim
def dM [Inhabited Env](K F:Nat->Prop)(σ:Nat->Option Nat)(hp:List ak)(w:World)(val:DV)(cJ:List ak)(v:Value)(w':World):Prop:=
 ∃F' σ',bF K F' σ' cJ w'/\iw K F w F' w'/\HM F σ hp w F' σ' cJ w'/\aB F' σ' cJ w' val v
theorem dM.same [Inhabited Env](hs:bF K F σ hp w){d}{v}(h:aB F σ hp w d v):dM K F σ hp w d hp v w:=
 ⟨F,σ,hs,.refl _ _ _,.refl _ _ _ _,h⟩
end
end Go.Nk
set_option linter.all false
namespace Go.Nk
open Go.RowKit
section
variable {P:Program} {K F:Nat->Prop} {σ:Nat->Option Nat} {hp:List ak} {w:World} {fr:List (Nat×DV)} {a:Act} {o:Oper}
def gX(P:Program)(F:Nat->Prop)(σ:Nat->Option Nat)(hp:List ak)(w:World)(o:Oper)(a:Act)(val:DV):Prop:=
 ∃v,(execOp a.eval o).run P w= .ok (.value v) w/\aB F σ hp w val v
theorem avJ{x}{y:DA}(ho:o.op= .move x\/o.op= .assign x)(hf:jq F σ hp w fr a.tmps)(hm:cF x y=true):gX P F σ hp w o a (y.ev fr):=by refine⟨a.eval x,?_,aE hf hm⟩;rcases ho with ho|ho<;>simp[execOp,ho]
theorem avL{op:BinOp}{t u}{x y}{x' y':DA}(ho:o.op= .binOp op t x y u)(hf:jq F σ hp w fr a.tmps)(hx:cF x x'=true)(hy:cF y y'=true)
 (h:(cI op (x'.ev fr) (y'.ev fr)).1):gX P F σ hp w o a (cI op (x'.ev fr) (y'.ev fr)).2:=by
 have vx:=aE hf hx;have vy:=aE hf hy;have key:∃v,(do eqGuard op t x y (a.eval x) (a.eval y);binOp op t (a.eval x) (a.eval y):Sem Value).run P w= .ok v w/\bY F w (cI op (x'.ev fr) (y'.ev fr)).2 v:=by
  generalize x'.ev fr=dx at*;generalize y'.ev fr=dy at*;unfold cI at h|-;split at h
  ·rename_i k i k' j;have e1:=vx.gJ;have e2:=vy.gJ;rw[e1,e2];have hg:(eqGuard op t x y (.int k i) (.int k' j)).run P w= .ok () w:=by unfold eqGuard;cases op<;>simp
   rw[Sem.run_bind,hg,Result.andThen_ok];split at h
   ·refine⟨_,?_,bY.int _ _⟩;have:¬j<0:=by simpa using h
    simp[binOp,Op.shift,this]
   ·refine⟨_,?_,bY.int _ _⟩;have:¬j<0:=by simpa using h
    simp[binOp,Op.shift,this]
   ·rename_i n1 n2;split at h
    ·rename_i hk;subst hk;rw[if_pos rfl];exact awj op t k i j h
    ·exact h.elim
  ·rename_i s1 s2;have e1:=vx.ny;have e2:=vy.ny;rw[e1,e2];have hg:(eqGuard op t x y (.string ⟨s1.toArray⟩) (.string ⟨s2.toArray⟩)).run P w= .ok () w:=by unfold eqGuard;cases op<;>simp
   rw[Sem.run_bind,hg,Result.andThen_ok];exact awk op t s1 s2 h
  ·exact h.elim
 obtain⟨v,h1,h2⟩:=key;exact⟨v,by simp only[execOp,ho,Sem.run_bind]at h1|-;rw[h1];rfl,.aN h2⟩
theorem FT{n}{op:BinOp}(h:isEq n op=true):(n=true/\op= .neq)\/(n=false/\op= .eql):=by
 unfold isEq at h;split at h
 ·rename_i hn;exact .inl ⟨hn,by simpa using h⟩
 ·rename_i hn;exact .inr ⟨by simpa using hn,by simpa using h⟩
theorem asO{op:BinOp}{n:Bool}{t u:TypeId}{x y:Operand}(ho:o.op= .binOp op t x y u)(b:Bool)
 (hg:(eqGuard op t x y (a.eval x) (a.eval y)).run P w= .ok () w) (hb:(binOp op t (a.eval x) (a.eval y)).run P w= .ok (.bool (if n then !b else b)) w):
 gX P F σ hp w o a (.bool (if n then !b else b)):=by
 refine⟨_,?_,.aN (.bool _)⟩;simp only[execOp,ho,Sem.run_bind,hg,Result.andThen_ok,hb];rfl
theorem avM{op:BinOp}{n}{t u}{x y}{x' y':DA}(ho:o.op= .binOp op t x y u)(hn:isEq n op=true)(ht:P.underlying t=some .bool)(hf:jq F σ hp w fr a.tmps)(hx:cF x x'=true)(hy:cF y y'=true)
 (h:(MI n (x'.ev fr) (y'.ev fr)).1):gX P F σ hp w o a (MI n (x'.ev fr) (y'.ev fr)).2:=by
 have vx:=aE hf hx;have vy:=aE hf hy;generalize x'.ev fr=dx at*;generalize y'.ev fr=dy at*;unfold MI at h|-;split at h
 ·rename_i p q;have e1:=vx.iO;have e2:=vy.iO;refine asO ho (p==q) ?_ ?_<;>rw[e1,e2]
  ·unfold eqGuard;cases op<;>simp
  ·rcases FT hn with⟨rfl,rfl⟩|⟨rfl,rfl⟩<;>simp[binOp,awl ht]
 ·exact h.elim
theorem V9{k}{ks}{cs ds}{r}(h:ez (k::ks) cs ds=some r):
 ∃(c:DV) (PN:List DV) (d:DV) (ds':List DV) (b:Bool),cs=c::PN/\ds=d::ds'/\∀ks2 cs2 ds2,ez (k::ks2) (c::cs2) (d::ds2)=if b then ez ks2 cs2 ds2 else some false:=by
 rcases cs with _|⟨c,cs⟩
 ·rcases k with _|_|_|k<;>simp[ez]at h
 rcases ds with _|⟨d,ds⟩
 ·rcases k with _|_|_|k<;>cases c<;>simp[ez]at h
 rcases k with _|_|_|k<;>cases c<;>cases d<;>try(simp[ez]at h;done)
 ·rename_i k1 a k2 b;by_cases hk:k1=k2
  ·exact⟨_,_,_,_,(a==b),rfl,rfl,λks2 cs2 ds2=>by simp only[ez,if_pos hk]⟩
  ·simp[ez,if_neg hk]at h
 ·rename_i a b;exact⟨_,_,_,_,(a==b),rfl,rfl,λks2 cs2 ds2=>rfl⟩
 ·rename_i a b;exact⟨_,_,_,_,(a==b),rfl,rfl,λks2 cs2 ds2=>rfl⟩
theorem Mc:∀(n:Nat) (ks:List Nat) (cs ds:List DV) (r:Bool),n<=ks.length->ez ks cs ds=some r->
 ∃q,ez (ks.take n) (cs.take n) (ds.take n)=some q/\(if q then ez (ks.drop n) (cs.drop n) (ds.drop n)else some false)=some r
 |0,ks,cs,ds,r,_,h=>⟨true,by simp[ez],by simpa using h⟩
 |n+1,[],cs,ds,r,hn,h=>by simp at hn
 |n+1,k::ks,cs,ds,r,hn,h=>by
  have hn':n<=ks.length:=by simpa using hn
  obtain⟨c,PN,d,ds',b,rfl,rfl,hb⟩:=V9 h;rw[hb]at h;simp only[List.take_succ_cons,List.drop_succ_cons,hb];cases b
  ·exact⟨false,rfl,by simpa using h⟩
  ·obtain⟨q,h1,h2⟩:=Mc n ks PN ds' r hn' (by simpa using h);exact⟨q,by simpa using h1,h2⟩
theorem sT{nest}{cs ds:List DV}{vs us:Array Value}(hv:∀(j:Nat) (d:DV),cs[j]? =some d->∃u,vs[j]? =some u/\aB F σ hp w d u)(hu:∀(j:Nat) (d:DV),ds[j]? =some d->∃u,us[j]? =some u/\aB F σ hp w d u)
 (hlv:cs.length=vs.size) (hlu:ds.length=us.size) (k')
 (alZ:∀t ks PN ds' u v q,nest t ks=true->PN.length=ks.length->ds'.length=ks.length->aB F σ hp w (.agg PN) u->aB F σ hp w (.agg ds') v->ez ks PN ds'=some q->(Op.equalIn (k'+1) t u v).run P w= .ok q w):
 ∀(fs:List Field) (ks:List Nat) (k:Nat) (r:Bool),mi P nest k fs ks=true->cs.length=k+ks.length->ds.length=k+ks.length->ez ks (cs.drop k) (ds.drop k)=some r->
 (Op.eqFields (k'+1) vs us fs).run P w= .ok r w
 |[],ks,k,r,hs,_,_,h=>by
  simp only[mi,List.isEmpty_iff]at hs;subst hs;unfold ez at h;split at h
  ·simp only[Option.some.injEq]at h;subst h;simp[Op.eqFields]
  ·rename_i e _ _;cases e
  ·rename_i e _ _;cases e
  ·rename_i e _ _;cases e
  ·cases h
 |f::fs,ks,k,r,hs,g1,g2,h=>by
  simp only[mi,Bool.and_eq_true,beq_iff_eq,bne_iff_ne,ne_eq]at hs;obtain⟨⟨ho,hn⟩,hr⟩:=hs;have go:∀(u v:Value) (b:Bool),(part f.type vs k).run P w= .ok u w->(part f.type us k).run P w= .ok v w->(Op.equalIn (k'+1) f.type u v).run P w= .ok b w->
   (b=true->(Op.eqFields (k'+1) vs us fs).run P w= .ok r w)->(b=false->r=false)->(Op.eqFields (k'+1) vs us (f::fs)).run P w= .ok r w:=by
   intro u v b pu pv hb h1 h2;simp only[Op.eqFields,ne_eq,hn,not_false_eq_true,if_true,ho,Sem.run_bind,pu,pv,hb,Result.andThen_ok];cases b
   ·simp[h2 rfl]
   ·simpa using h1 rfl
  split at hr
  ·rename_i iP;split at hr
   ·rename_i n ns;simp only[Bool.and_eq_true]at hr;obtain⟨hsc,hr⟩:=hr;have fit:∀(x y:DV) (t t':List DV),cs.drop k=x::t->ds.drop k=y::t'->t=cs.drop (k+1)/\t'=ds.drop (k+1)/\
     ∃u v,(part f.type vs k).run P w= .ok u w/\(part f.type us k).run P w= .ok v w/\aB F σ hp w x u/\aB F σ hp w y v:=by
     intro x y t t' e1 e2;have a1:t=cs.drop (k+1):=by rw[<-List.drop_drop,e1];rfl
     have a2:t'=ds.drop (k+1):=by rw[<-List.drop_drop,e2];rfl
     obtain⟨u,pu,ru⟩:=Qp (P:=P) iP hlv hv k (by rw[e1];simp[bA]);obtain⟨v,pv,rv⟩:=Qp (P:=P) iP hlu hu k (by rw[e2];simp[bA]);have d1:(bA none (True,cs.drop k)).2=x:=by rw[e1];rfl
     have d2:(bA none (True,ds.drop k)).2=y:=by rw[e2];rfl
     rw[d1]at ru;rw[d2]at rv;exact⟨a1,a2,u,v,pu,pv,ru,rv⟩
    have step:∀(u v:Value) (b:Bool),(part f.type vs k).run P w= .ok u w->(part f.type us k).run P w= .ok v w->(Op.equalIn (k'+1) f.type u v).run P w= .ok b w->
     (if b then ez ns (cs.drop (k+1)) (ds.drop (k+1))else some false)=some r->(Op.eqFields (k'+1) vs us (f::fs)).run P w= .ok r w:=by
     intro u v b pu pv hb qB;refine go u v b pu pv hb (λe=> ?_) (λe=> ?_)
     ·subst e;exact sT hv hu hlv hlu k' alZ fs ns (k+1) r hr (by simp only[List.length_cons]at g1;omega) (by simp only[List.length_cons]at g2;omega) (by simpa using qB)
     ·subst e;simpa using qB.symm
    unfold ez at h;split at h
    ·rename_i e _ _;cases e
    ·rename_i ks1 k1 a r1 k2 b s1 e0 e1 e2;cases e0;obtain⟨rfl,rfl,u,v,pu,pv,ru,rv⟩:=fit _ _ _ _ e1 e2;split at h
     ·rename_i hk;subst hk;have f1:=ru.gJ;have f2:=rv.gJ;subst f1;subst f2;unfold Iw at hsc;split at hsc
      ·rename_i ht;exact step _ _ _ pu pv (run_equalIn_int w k' _ _ _ _ _ ht) h
      ·simp at hsc
      ·simp at hsc
      ·cases hsc
     ·cases h
    ·rename_i ks1 a r1 b s1 e0 e1 e2;cases e0;obtain⟨rfl,rfl,u,v,pu,pv,ru,rv⟩:=fit _ _ _ _ e1 e2;have f1:=ru.iO;have f2:=rv.iO;subst f1;subst f2;unfold Iw at hsc;split at hsc
     ·simp at hsc
     ·rename_i ht;exact step _ _ _ pu pv (run_equalIn_bool' w k' _ _ _ ht) h
     ·simp at hsc
     ·cases hsc
    ·rename_i ks1 a r1 b s1 e0 e1 e2;cases e0;obtain⟨rfl,rfl,u,v,pu,pv,ru,rv⟩:=fit _ _ _ _ e1 e2;have f1:=ru.ny;have f2:=rv.ny;subst f1;subst f2;unfold Iw at hsc;split at hsc
     ·simp at hsc
     ·simp at hsc
     ·rename_i ht;refine step _ _ (a==b) pu pv ?_ h;rw[run_equalIn_string w k' _ _ _ ht,ByteArray.toList_eq,ByteArray.toList_eq]
     ·cases hsc
    ·cases h
   ·cases hr
  ·rename_i n iP;simp only[Bool.and_eq_true,decide_eq_true_eq]at hr;obtain⟨⟨hle,bw⟩,hr⟩:=hr;obtain⟨q,h1,h2⟩:=Mc n _ _ _ _ hle h;have l1:n<=(cs.drop k).length/\n<=(ds.drop k).length:=by rw[List.length_drop,List.length_drop];omega
   obtain⟨u,pu,ru⟩:=Qp (P:=P) iP hlv hv k (by simpa[bA]using l1.1);obtain⟨v,pv,rv⟩:=Qp (P:=P) iP hlu hu k (by simpa[bA]using l1.2);refine go u v q pu pv (alZ _ _ _ _ _ _ _ bw (by simp only[List.length_take];omega) (by simp only[List.length_take];omega) ru rv h1) (λe=> ?_) (λe=> ?_)
   ·subst e;exact sT hv hu hlv hlu k' alZ fs (ks.drop n) (k+n) r hr (by rw[List.length_drop];omega) (by rw[List.length_drop];omega) (by simpa[List.drop_drop,Nat.add_comm]using h2)
   ·subst e;simpa using h2.symm
  ·cases hr
theorem avN{op:BinOp}{n}{t u}{x y}{x' y':DA}{ks}(ho:o.op= .binOp op t x y u)(hn:isEq n op=true)(ht:FR P t ks=true)(hf:jq F σ hp w fr a.tmps)(hx:cF x x'=true)(hy:cF y y'=true)
 (h:(Vf n ks (x'.ev fr) (y'.ev fr)).1):gX P F σ hp w o a (Vf n ks (x'.ev fr) (y'.ev fr)).2:=by
 have vx:=aE hf hx;have vy:=aE hf hy;generalize x'.ev fr=dx at*;generalize y'.ev fr=dy at*;unfold FR at ht;split at ht
 ·rename_i fs hu;simp only[Bool.and_eq_true,Bool.not_eq_true']at ht;obtain⟨⟨hs,Sj⟩,hg⟩:=ht;have hfs:P.fieldsOf t=fs:=by simp[Program.fieldsOf,hu]
  unfold Vf at h|-;split at h
  ·rename_i cs ds;obtain⟨vs,e1,l1,r1⟩:=vx.pN;obtain⟨us,e2,l2,r2⟩:=vy.pN;split at h
   ·rename_i r hr;obtain⟨g1,g2⟩:=h;have x7:(Op.equalIn 10000 t (.agg vs) (.agg us)).run P w= .ok r w:=by
     rw[run_equalIn_struct w 9999 t vs us (by rw[hfs];exact hu) Sj,hfs];refine sT r1 r2 l1 l2 9998 (λt' ks' PN ds' u v q bw n1 n2 ru rv hq=> ?_) fs.toList ks 0 r hs (by omega) (by omega) hr;unfold aqw at bw;split at bw
     ·rename_i gs Ny;simp only[Bool.and_eq_true,Bool.not_eq_true']at bw;obtain⟨um,azM⟩:=bw;obtain⟨vs',rfl,l1',r1'⟩:=ru.pN;obtain⟨us',rfl,l2',r2'⟩:=rv.pN;have hgs:P.fieldsOf t'=gs:=by simp[Program.fieldsOf,Ny]
      rw[run_equalIn_struct w 9998 t' vs' us' (by rw[hgs];exact Ny) azM,hgs];exact sT r1' r2' l1' l2' 9997 (λ_ _ _ _ _ _ _ h=>by cases h) gs.toList ks' 0 q um (by omega) (by omega) hq
     ·cases bw
    refine asO ho r ?_ ?_<;>rw[e1,e2]
    ·exact run_eqGuard_agg w op t x y vs us hg
    ·rcases FT hn with⟨rfl,rfl⟩|⟨rfl,rfl⟩
     ·rw[run_neq_struct,x7];rfl
     ·rw[run_eql_struct,x7];rfl
   ·exact h.elim
  ·exact h.elim
 ·cases ht
theorem ass{C}{op:BinOp}{n}{t u e}{x}{x'}(ho:o.op= .binOp op t x (.const (.slice none 0 0)) u)(hn:isEq n op=true)(ht:P.underlying t=some (.slice e))(hf:jq F σ hp w fr a.tmps)(hx:cF x x'=true)
 (h:(aw C (.PL n x') ⟨fr,hp⟩).pre):gX P F σ hp w o a (aw C (.PL n x') ⟨fr,hp⟩).val:=by
 have vx:=aE hf hx;simp only[aw]at h|-;generalize x'.ev fr=dx at*;have key:∀A m c,a.eval x= .slice A m c->gX P F σ hp w o a (.bool (if n then !A.isNone else A.isNone)):=by
  intro A m c e1;have e2:a.eval (.const (.slice none 0 0))= .slice none 0 0:=rfl;refine asO ho _ ?_ ?_<;>rw[e1,e2]
  ·unfold eqGuard;cases op<;>simp
  ·rcases FT hn with⟨rfl,rfl⟩|⟨rfl,rfl⟩<;>simp[binOp,awm ht]
 have awq:∀b,gX P F σ hp w o a (.bool b)->gX P F σ hp w o a .FC:=by
  rintro b ⟨v,h1,h2⟩
  exact⟨v,h1,by rw[h2.iO];exact .aN (.FC b)⟩
 split at h
 ·have:=key none 0 0 vx.kx;cases n<;>simpa using this
 ·obtain⟨A,m,c,e1⟩:∃A m c,a.eval x= .slice A m c:=by generalize a.eval x=v at vx|-;cases vx.sb;exact⟨_,_,_,rfl⟩
  exact awq _ (key A m c e1)
 ·rename_i r s;obtain⟨A,m,c,e1,hA⟩:∃A m c,a.eval x= .slice A m c/\A.isNone=false:=by
   generalize a.eval x=v at vx|-;cases vx.sb with
   |sl _ A m c b z cv _ _ hA=>exact⟨A,m,c,rfl,by rw[(hA (by simp)).1];rfl⟩
  have:=key A m c e1;rw[hA]at this;cases n<;>simpa using this
 ·rename_i h' L off len;obtain⟨hl,cD⟩:=vx.qL;obtain⟨A,cap,e1,hlc,e2⟩:∃A cap,a.eval x= .slice A len cap/\len<=cap/\(cap=0\/A.isNone=false):=by
   unfold alive at h;cases WL:hp[h']? with
   |none=>simp[WL]at h
   |some ob=>
    simp only[WL]at h;obtain⟨A,cap,e1,e2,e3⟩:=(cD ob WL).2 h.1 h.2;exact⟨A,cap,e1,e2,e3.imp id λ⟨g,_,hA,_⟩=>by rw[hA];rfl⟩
  have:=key A len cap e1;split
  ·rename_i fM;rw[e2.resolve_left (by omega)]at this;cases n<;>simpa using this
  ·exact awq _ this
 ·exact h.elim
theorem azr{op:UnOp}{t}{x}{x':DA}(ho:o.op= .unOp op t x)(hf:jq F σ hp w fr a.tmps)(hx:cF x x'=true)
 (h:(IX op (x'.ev fr)).1):gX P F σ hp w o a (IX op (x'.ev fr)).2:=by
 obtain⟨v,h1,h2⟩:=azJ (P:=P) op _ _ (aE hf hx) h;exact⟨v,by simp[execOp,ho,h1],.aN h2⟩
theorem ast{s t}{k k':IntKind}{n}{x}(ho:o.op= .convert s t x)(hs:(P.underlying s).isSome=true)(ht:P.underlying t=some (.int k))(hx:a.eval x= .int k' n):
 gX P F σ hp w o a (.int k (k.wrap n)):=by
 obtain⟨d,hd⟩:=Option.isSome_iff_exists.1 hs;refine⟨_,?_,.aN (.int _ _)⟩;simp[execOp,ho,hx,convert,bO hd,bO ht,Conv.intToInt]
theorem x9{b:Builtin}{xs:Array Operand}{ts:Array TypeId}{v}{d}(ho:o.op= .call {callee:= .builtin b,args:=xs,argTypes:=ts})
 (hb:∀cs,(builtin b ts o.type cs (xs.map a.eval)).run P w= .ok (.value v) w) (hv:aB F σ hp w d v):gX P F σ hp w o a d:=by
 refine⟨v,?_,hv⟩;simp[execOp,ho,resolve,invoke,hb]
theorem ZI{b:Builtin}{mx:Bool}{xs:Array Operand}{ts:Array TypeId}{x y:Operand}{k:IntKind}{m n:Int}(hb:b=if mx then .max else .min)
 (ho:o.op= .call {callee:= .builtin b,args:=xs,argTypes:=ts}) (sS:xs= #[x,y]) (hx:a.eval x= .int k m) (hy:a.eval y= .int k n):
 gX P F σ hp w o a (.int k (if mx then max m n else min m n)):=by
 subst hb sS;refine x9 ho (v:= .int k (if mx then max m n else min m n)) (λcs=> ?_) (.aN (.int _ _));cases mx
 ·have e:(if n<m then n else m)=min m n:=by rw[Int.min_def];split<;>split<;>omega
  simp[builtin,Builtin.min_,Builtin.min2,hx,hy,e]
 ·have e:(if m<n then n else m)=max m n:=by rw[Int.max_def];split<;>split<;>omega
  simp[builtin,Builtin.max_,Builtin.max2,hx,hy,e]
theorem asu{xs:Array Operand}{t}{x}{b:List UInt8}(ho:o.op= .call {callee:= .builtin .len,args:=xs,argTypes:= #[t]})(sS:xs= #[x])(ht:P.underlying t=some .string)(hx:a.eval x= .string ⟨b.toArray⟩):
 gX P F σ hp w o a (.int .i64 b.length):=by
 subst sS;refine x9 ho (v:= .int .i64 b.length) (λcs=> ?_) (.aN (.int _ _));have e:(⟨b.toArray⟩:ByteArray).size=b.length:=rfl;simp[builtin,Builtin.len_,bO ht,hx,goInt,e]
theorem alF{xs:Array Operand}{t e}{x}{A}{n c}(ho:o.op= .call {callee:= .builtin .len,args:=xs,argTypes:= #[t]})(sS:xs= #[x])(ht:P.underlying t=some (.slice e))(hx:a.eval x= .slice A n c):
 gX P F σ hp w o a (.int .i64 n):=by
 subst sS;refine x9 ho (v:= .int .i64 n) (λcs=> ?_) (.aN (.int _ _));simp[builtin,Builtin.len_,bO ht,hx,goInt]
theorem avK{xs:Array Operand}{t e}{x}{A}{n c}(ho:o.op= .call {callee:= .builtin .cap,args:=xs,argTypes:= #[t]})(sS:xs= #[x])(ht:P.underlying t=some (.slice e))(hx:a.eval x= .slice A n c):
 gX P F σ hp w o a (.int .i64 c):=by
 subst sS;refine x9 ho (v:= .int .i64 c) (λcs=> ?_) (.aN (.int _ _));simp[builtin,Builtin.cap_,bO ht,hx,goInt]
theorem asv [Inhabited Env](hs:bF K F σ hp w){t}{sz}{x}{x':DA}(ho:o.op= .load t x)(iP:Qa P t=some sz)(hf:jq F σ hp w fr a.tmps)(hx:cF x x'=true)
 (h:(bA sz (aI hp (x'.ev fr))).1):gX P F σ hp w o a (bA sz (aI hp (x'.ev fr))).2:=by
 obtain⟨u,hu,hr⟩:=aeX (P:=P) hs iP (aE hf hx) h;exact⟨u,by simp[execOp,ho,hu],hr⟩
theorem aoU{t}{f}{fs:Array Field}{fl:Field}{sz}{x}{x':DA}{cs:List DV}(ho:o.op= .field t x f)(ht:P.underlying t=some (.struct fs))(UI:fs[f]? =some fl)(iP:Qa P fl.type=some sz)
 (hf:jq F σ hp w fr a.tmps) (hx:cF x x'=true) (hcs:x'.ev fr= .agg cs) (h:(bA sz (True,cs.drop fl.offset)).1):gX P F σ hp w o a (bA sz (True,cs.drop fl.offset)).2:=by
 have hv:=aE hf hx;rw[hcs]at hv;obtain⟨vs,e1,hl,hv⟩:=hv.pN;obtain⟨u,hu,hr⟩:=Qp (P:=P) iP hl hv fl.offset h;exact⟨u,by simp[execOp,ho,Instr.field,bO ht,UI,e1,asAgg,hu],hr⟩
theorem ae0{t}{f}{fs:Array Field}{fl:Field}{i:TypeInfo}{x}{p:Addr}(ho:o.op= .fieldAddr t x f)(ht:P.underlying t=some (.struct fs))(UI:fs[f]? =some fl)(hi:P.info? fl.type=some i)(bw:i.size≠0)
 (hx:a.eval x= .pointer (some p)) (cJ:p.spot=none) {d} (hv:aB F σ hp w d (.pointer (some ⟨p.block,p.off+fl.offset,none⟩))):gX P F σ hp w o a d:=by
 refine⟨_,?_,hv⟩;simp[execOp,ho,Instr.fieldAt,bO ht,UI,hx,Instr.sureAddr,fieldPlace,sizeOf,typeInfo,hi,bw,kK cJ]
theorem ZL{cs:List DV}{p:Addr}(h:bY F w (.ref cs) (.pointer (some p)))(n):bY F w (.ref (cs.drop n)) (.pointer (some ⟨p.block,p.off+n,none⟩)):=by obtain⟨b,e,hs,hF,hc⟩:=h.nz;injection e with e;injection e with e;subst e;refine bY.acX rfl hF λj d hd=> ?_;rw[List.getElem?_drop]at hd;obtain⟨u,hu,h1⟩:=hc _ _ hd;exact⟨u,by simpa[Nat.add_assoc]using hu,h1⟩
theorem ae1{t e}{i:TypeInfo}{x y}{A}{n c}{k:IntKind}{m:Int}{b:Addr}(ho:o.op= .indexAddr t x y)(ht:P.underlying t=some (.slice e))(hi:P.info? e=some i)
 (hx:a.eval x= .slice A n c) (hy:a.eval y= .int k m) (hA:A=some b) (hb:b.spot=none) (h0:0<=m) (h1:m<n) {d}
 (hv:aB F σ hp w d (.pointer (some ⟨b.block,b.off+m.toNat*i.size,none⟩))):gX P F σ hp w o a d:=by
 refine⟨_,?_,hv⟩;simp[execOp,ho,Instr.indexAt,hx,hy,asIntOf,bO ht,hA,h0,h1,sizeOf,typeInfo,hi,kK hb]
theorem ZM{t e}{i:TypeInfo}{x y}{n}{k:IntKind}{m:Int}{b:Addr}(ho:o.op= .indexAddr t x y)(ht:P.underlying t=some (.array n e))(hi:P.info? e=some i)
 (hx:a.eval x= .pointer (some b)) (hy:a.eval y= .int k m) (hb:b.spot=none) (h0:0<=m) (h1:m<n) {d}
 (hv:aB F σ hp w d (.pointer (some ⟨b.block,b.off+m.toNat*i.size,none⟩))):gX P F σ hp w o a d:=by
 refine⟨_,?_,hv⟩;simp[execOp,ho,Instr.indexAt,hx,hy,asIntOf,bO ht,Instr.sureAddr,h0,h1,sizeOf,typeInfo,hi,kK hb]
theorem aoV{t}{x y}{k:IntKind}{m:Int}{s:List UInt8}(ho:o.op= .index t x y)(ht:P.underlying t=some .string)
 (hx:a.eval x= .string ⟨s.toArray⟩) (hy:a.eval y= .int k m) (h0:0<=m) (h1:m<s.length):gX P F σ hp w o a (.int .u8 (s.getD m.toNat 0).toNat):=by
 have fM:m.toNat<s.length:=by omega
 have e:(⟨s.toArray⟩:ByteArray)[m.toNat]? =some s[m.toNat]:=by have hs:m.toNat<(⟨s.toArray⟩:ByteArray).size:=fM;exact(getElem?_pos (⟨s.toArray⟩:ByteArray) m.toNat hs).trans rfl
 refine⟨_,?_,.aN (.int _ _)⟩;simp[execOp,ho,Instr.index,hx,hy,asIntOf,bO ht,h0,e,List.getD,fM]
theorem ag9{x}{x':DA}{i}{ds:List DV}(ho:o.op= .extract x i)(hf:jq F σ hp w fr a.tmps)(hx:cF x x'=true)(hd:x'.ev fr= .cy ds)(h:i<ds.length):gX P F σ hp w o a (ds.getD i .undef):=by
 have hv:=aE hf hx;rw[hd]at hv;obtain⟨vs,e1,hl,hv⟩:=hv.Ik;obtain⟨u,hu,hr⟩:=hv i ds[i] (by simp);refine⟨u,by simp[execOp,ho,Instr.extract,e1,hu],?_⟩;have:ds.getD i .undef=ds[i]:=by simp[List.getD,h]
 rw[this];exact hr
theorem Nw{x}{v}(ho:o.op= .nilCheck x)(hx:a.eval x=v)(hv:(∃p,v= .pointer (some p))\/∃f b c,v= .func (.func f) b c){d}(hr:aB F σ hp w d v):gX P F σ hp w o a d:=by refine⟨v,?_,hr⟩;rcases hv with⟨p,rfl⟩|⟨f,b,c,rfl⟩<;>simp[execOp,ho,hx]
theorem aoZ{f}{fst caps:Array Operand}{ZN:List DA}(ho:o.op= .makeFunc (.func f) fst caps)(azN:fst.size=0)(hf:jq F σ hp w fr a.tmps)(hc:gp caps.toList ZN=true):
 gX P F σ hp w o a (.clo f (ZN.map (·.ev fr))):=by
 obtain⟨hl,hv⟩:=KS hf hc;have:fst= #[]:=Array.eq_empty_of_size_eq_zero azN;subst this;refine⟨.func (.func f) #[] (caps.map a.eval),by simp[execOp,ho,Instr.makeFunc],aB.asM (by simpa using hl) λj d hd=> ?_⟩;obtain⟨u,hu,hr⟩:=hv j d hd;exact⟨u,by simpa using hu,hr⟩
theorem alD{c x y}{c' x' y':DA}{b}(ho:o.op= .pick c x y)(hf:jq F σ hp w fr a.tmps)(hc:cF c c'=true)(hx:cF x x'=true)(hy:cF y y'=true)(hb:c'.ev fr= .bool b):
 gX P F σ hp w o a (if b then x'.ev fr else y'.ev fr):=by
 have hv:=aE hf hc;rw[hb]at hv;have e:=hv.iO;refine⟨if b then a.eval x else a.eval y,by simp[execOp,ho,e,asBool],?_⟩;cases b
 ·exact aE hf hy
 ·exact aE hf hx
end
end Go.Nk
set_option linter.all false
namespace Go.Nk
open Go.RowKit
section
variable {P:Program} {K F:Nat->Prop} {σ:Nat->Option Nat} {hp:List ak} {w:World} {fr:List (Nat×DV)} {a:Act} {o:Oper}
theorem sU{k:IntKind}{n:Int}{y:Nat}{code:BoundsCode}(h0:0<=n)(h1:n<=y):(Instr.sliceBound (.int k n) y code).run P w= .ok n.toNat w:=by simp[Instr.sliceBound,asIntOf,h0,h1]
theorem al0(hf:jq F σ hp w fr a.tmps){x}{d}(h:KU x d=true):
 (x=none/\d=none)\/∃y e,x=some y/\d=some e/\aB F σ hp w (e.ev fr) (a.eval y):=by
 unfold KU at h;split at h
 ·exact .inl ⟨rfl,rfl⟩
 ·rename_i y e;exact .inr ⟨y,e,rfl,rfl,aE hf h⟩
 ·cases h
def Nz(x:Option Value)(d:Option DV)(ac6 n:Int):Prop:=(x=none/\d=none/\n=ac6)\/∃k e,x=some (.int k n)/\d=some e
theorem mj(hf:jq F σ hp w fr a.tmps){x:Option Operand}{d:Option DA}(h:KU x d=true){ac6}(hb:(eG (d.map (·.ev fr)) ac6).1):
 Nz (x.map a.eval) (d.map (·.ev fr)) ac6 (eG (d.map (·.ev fr)) ac6).2:=by
 rcases al0 hf h with⟨rfl,rfl⟩|⟨y,e,rfl,rfl,hv⟩
 ·exact .inl ⟨rfl,rfl,rfl⟩
 ·simp only[Option.map_some]at hb|-;generalize e.ev fr=de at*;cases de<;>simp only[eG]at hb|-;case int k n=>exact .inr ⟨k,_,by rw[hv.gJ],rfl⟩
  all_goals exact hb.elim
theorem Ix{isS:Bool}{len cap:Nat}{lo hi mx:Option Value}{dl dh dm:Option DV}{l h m:Int}(P2:Nz lo dl 0 l)(hhi:Nz hi dh len h)(hmx:Nz mx dm h m)
 (Qq:dm.isSome=true->dh.isSome=true) (h0:0<=l) (h1:l<=h) (h2:h<=m) (h3:m<=cap):
 ∃M:Nat,(Instr.sliceBounds isS len cap lo hi mx).run P w= .ok (l.toNat,h.toNat,M) w/\h.toNat<=M/\M<=cap:=by
 rcases hmx with⟨rfl,rfl,rfl⟩|⟨km,em,rfl,rfl⟩
 ·refine⟨cap,?_,by omega,Nat.le_refl _⟩;rcases hhi with⟨rfl,rfl,rfl⟩|⟨kh,eh,rfl,rfl⟩
  ·rcases P2 with⟨rfl,rfl,rfl⟩|⟨kl,el,rfl,rfl⟩
   ·simp[Instr.sliceBounds]
   ·simp[Instr.sliceBounds,sU h0 h1]
  ·rcases P2 with⟨rfl,rfl,rfl⟩|⟨kl,el,rfl,rfl⟩
   ·simp[Instr.sliceBounds,sU (show 0<=m by omega) h3]
   ·have e:l<=(m.toNat:Int):=by omega
    simp[Instr.sliceBounds,sU (show 0<=m by omega) h3,sU h0 e]
 ·refine⟨m.toNat,?_,by omega,by omega⟩;rcases hhi with⟨rfl,rfl,rfl⟩|⟨kh,eh,rfl,rfl⟩
  ·simp at Qq
  ·have e1:h<=(m.toNat:Int):=by omega
   rcases P2 with⟨rfl,rfl,rfl⟩|⟨kl,el,rfl,rfl⟩
   ·simp[Instr.sliceBounds,sU (show 0<=m by omega) h3,sU (show 0<=h by omega) e1]
   ·have e:l<=(h.toNat:Int):=by omega
    simp[Instr.sliceBounds,sU (show 0<=m by omega) h3,sU (show 0<=h by omega) e1,sU h0 e]
theorem extract_mk(s:List UInt8)(l h):(⟨s.toArray⟩:ByteArray).extract l h=⟨((s.take h).drop l).toArray⟩:=by apply ByteArray.ext;rw[ByteArray.data_extract];apply Array.ext';simp[List.drop_take]
theorem alG{t}{x}{x':DA}{lo hi mx}{PY Gk:Option DA}(ho:o.op= .slice t x lo hi mx)(ht:P.underlying t=some .string)(hmx:mx=none)(hf:jq F σ hp w fr a.tmps)(hx:cF x x'=true)
 (P2:KU lo PY=true) (hhi:KU hi Gk=true) (h:(qM (x'.ev fr) (PY.map (·.ev fr)) (Gk.map (·.ev fr))).1):
 gX P F σ hp w o a (qM (x'.ev fr) (PY.map (·.ev fr)) (Gk.map (·.ev fr))).2:=by
 subst hmx;have hv:=aE hf hx;generalize x'.ev fr=dx at*;unfold qM at h|-;split at h
 ·rename_i s;obtain⟨hl,hh,h0,h1,h2⟩:=h;have e1:=hv.ny;obtain⟨M,hM,_,_⟩:=Ix (P:=P) (w:=w) (isS:=false) (cap:=s.length) (mj hf P2 hl) (mj hf hhi hh) (.inl ⟨rfl,(rfl:(none:Option DV)=none),rfl⟩) (by simp) h0 h1 (Int.le_refl _) h2;have iP:(⟨s.toArray⟩:ByteArray).size=s.length:=rfl;refine⟨_,?_,.aN (.str _)⟩;simp only[execOp,ho,Instr.sliceAt,Sem.run_bind,bO ht,Result.andThen_ok,Instr.slice,e1,Option.map_none,Option.isSome_none,Bool.false_eq_true,if_false,iP];rw[hM];simp[extract_mk]
 ·exact h.elim
theorem aoW{t e:TypeId}{i:TypeInfo}{x:Operand}{x':DA}{lo hi mx:Option Operand}{PY Gk mx':Option DA}(ho:o.op= .slice t x lo hi mx)(ht:P.underlying t=some (.slice e))(azO:P.info? e=some i)
 (hf:jq F σ hp w fr a.tmps) (hx:cF x x'=true) (P2:KU lo PY=true) (hhi:KU hi Gk=true) (hmx:KU mx mx'=true)
 (h:(nD hp i.size (x'.ev fr) (PY.map (·.ev fr)) (Gk.map (·.ev fr)) (mx'.map (·.ev fr))).1):
 gX P F σ hp w o a (nD hp i.size (x'.ev fr) (PY.map (·.ev fr)) (Gk.map (·.ev fr)) (mx'.map (·.ev fr))).2:=by
 have hv:=aE hf hx;have run:∀{A:Option Addr} {len cap l h m M:Nat},a.eval x= .slice A len cap->(Instr.sliceBounds true len cap (lo.map a.eval) (hi.map a.eval) (mx.map a.eval)).run P w= .ok (l,h,M) w->
  (execOp a.eval o).run P w= .ok (.value (.slice (if M=l then A else A.map (·.add (l*i.size))) (h-l) (M-l))) w:=by
  intro A len cap l h m M e1 hb;simp only[execOp,ho,Instr.sliceAt,Sem.run_bind,bO ht,Result.andThen_ok,Instr.slice,e1];rw[hb];simp[sizeOf,typeInfo,azO]
 generalize x'.ev fr=dx at*;unfold nD at h|-;split at h
 ·rename_i es;dsimp only at h|-;obtain⟨hz,hl,hh,hm,Qq,h0,h1,h2,h3⟩:=h;obtain⟨A,c,z,e1,hlc,hA,o5⟩:=hv.sb.sb;obtain⟨M,hM,hM1,hM2⟩:=Ix (P:=P) (w:=w) (isS:=true) (cap:=c) (mj hf P2 hl) (mj hf hhi hh) (mj hf hmx hm) Qq h0 h1 h2 (by omega);generalize (eG (PY.map (·.ev fr)) 0).2=l at*;generalize (eG (Gk.map (·.ev fr)) (es.length:Int)).2=hh' at*;refine⟨_,run (m:=0) e1 hM,.aN ?_⟩;have hlen:((es.take hh'.toNat).drop l.toNat).length=hh'.toNat-l.toNat:=by simp;omega
  have hc1:((es.take hh'.toNat).drop l.toNat).length<=M-l.toNat:=by rw[hlen];omega
  rw[<-hlen];refine bY.LZ (z:=z) hc1 (λi e he=> ?_) (λbw=> ?_)
  ·rw[List.getElem?_drop,List.getElem?_take]at he;split at he
   ·exact o5 _ _ he
   ·cases he
  ·have sK:0<hh'.toNat-l.toNat:=by rw[<-hlen];exact List.length_pos_iff.2 bw
   have VV:es≠[]:=by intro e';subst e';simp at bw
   obtain⟨b,rfl,hb1,hb2,hb3⟩:=hA VV;have hzi:z=i.size:=by obtain⟨e0,he0⟩:=List.exists_mem_of_ne_nil es VV;obtain⟨k0,z9,rfl⟩:=List.getElem_of_mem he0;rw[<-o5 k0 _ (List.getElem?_eq_getElem z9)];exact hz _ he0
   rw[if_neg (by omega)];have ahj:=kK hb1 (l.toNat*i.size);refine⟨_,rfl,by dsimp only;rw[ahj],by dsimp only;rw[ahj];exact hb2,λj k d hd=> ?_⟩;have oF:cellAt es (l.toNat+j) k=some d:=by
    unfold cellAt at hd|-;rw[List.getElem?_drop,List.getElem?_take]at hd;split at hd
    ·exact hd
    ·simp at hd
   obtain⟨u,hu,h1'⟩:=hb3 _ _ _ oF;refine⟨u,?_,h1'⟩;dsimp only;rw[ahj,<-hzi,<-hu];congr 2;dsimp only;rw[Nat.add_mul];omega
 ·rename_i h' L off len;dsimp only at h|-;obtain⟨hl,hh,hm,Qq,h0,h1,h2,h3,cD⟩:=h;obtain⟨fM,hov⟩:=hv.qL;cases WL:hp[h']? with
  |none=>simp[WL]at cD
  |some ob=>
   simp only[WL]at cD;obtain⟨hk,hz,hL⟩:=cD;obtain⟨A,cap,e1,hle,hA⟩:=(hov ob WL).2 hk hL;obtain⟨M,hM,hM1,hM2⟩:=Ix (P:=P) (w:=w) (isS:=true) (cap:=cap) (mj hf P2 hl) (mj hf hhi hh) (mj hf hmx hm) Qq h0 h1 h2 (by omega);refine⟨_,run (m:=0) e1 hM,.own _ _ _ _ _ rfl fM λo' ey=> ?_⟩;rw[WL]at ey;injection ey with ey;subst ey;refine⟨by omega,λ_ _=>⟨_,_,rfl,by omega,?_⟩⟩;rcases hA with hA|⟨g,hg,rfl,Db⟩
   ·left;omega
   ·by_cases hMl:M=(eG (PY.map (·.ev fr)) 0).2.toNat
    ·left;omega
    ·right;refine⟨g,hg,?_,?_⟩
     ·rw[if_neg hMl,<-hz];simp[kK,Nat.add_mul]
     ·refine Nat.le_trans (Nat.mul_le_mul_right _ ?_) Db;omega
 ·obtain⟨hl,hh,hm,Qq,h0,h1,h2⟩:=h;have e1:=hv.kx;obtain⟨M,hM,hM1,hM2⟩:=Ix (P:=P) (w:=w) (isS:=true) (len:=0) (cap:=0) (mj hf P2 hl) (mj hf hhi hh) (h:=(eG (Gk.map (·.ev fr)) 0).2) (m:=(eG (mx'.map (·.ev fr)) 0).2)
   (by rw[h1];exact mj hf hmx hm) Qq (by omega) (by omega) (by omega) (by omega)
  refine⟨_,run (m:=0) e1 hM,?_⟩;rw[h0,h1];have:M=0:=by omega
  subst this;simp;exact .aN .nil
 ·exact h.elim
theorem avO{s t e}{x}{A}{c}{es:List (List DV)}(ho:o.op= .convert s t x)(hs:P.underlying s=some (.slice e))(he:P.underlying e=some (.int .u8))(ht:P.underlying t=some .string)
 (hx:a.eval x= .slice A es.length c) (hb:∀e∈es,∃n,e=[.int .u8 n]) (hA:es≠[]->∃b,A=some b/\b.spot=none/\∀i j d,cellAt es i j=some d->∃u,w.cell? ⟨b.block,b.off+(i*1+j),none⟩=some u/\bY F w d u) (WK:∀b,A=some b->es=[]->True):
 gX P F σ hp w o a (.str (es.map λe=>match e with|[.int _ n]=>UInt8.ofNat n.toNat|_=>0)):=by
 refine⟨_,?_,.aN (.str _)⟩;have key:(convert s t (.slice A es.length c)).run P w= .ok (.string ⟨(es.map λe=>match e with|[.int _ n]=>UInt8.ofNat n.toNat|_=>0).toArray⟩) w:=by
  by_cases bw:es=[]
  ·subst bw;cases A with
   |none=>rw[run_convert_bytes_nil w s e hs he _ _ t ht];rfl
   |some b=>
    rw[run_convert_bytes_string w s t e _ _ _ hs he ht];exact run_bytesToString w b 0 c [] (by simp[loadCells,loadCellsFrom])
  ·obtain⟨b,rfl,hb1,hc⟩:=hA bw;let f:List DV->Int:=λe=>match e with|[.int _ n]=>n|_=>0
   have hcell:=run_convert_bytes_arg (P:=P) w s e hs he b.block b.off es.length c (es.map f) (by simp) (λi hi=>by obtain⟨n,hn⟩:=hb es[i] (by simp);obtain⟨u,hu,hr⟩:=hc i 0 (.int .u8 n) (by simp[cellAt,hi,hn]);cases hr;simp only[Nat.mul_one,Nat.add_zero]at hu;rw[hu];simp[List.getD,hi,hn,f]) t ht
   have hbb:(⟨b.block,b.off,none⟩:Addr)=b:=by cases b;simp at hb1;subst hb1;rfl
   rw[hbb]at hcell;rw[hcell];congr 2;apply ByteArray.ext;apply Array.ext';rw[strOfNums_data];simp only[List.map_map];refine List.map_congr_left λe he=> ?_;obtain⟨n,rfl⟩:=hb e he;rfl
 simp only[execOp,ho,hx,Sem.run_bind,key,Result.andThen_ok];rfl
end
end Go.Nk
set_option linter.all false
namespace Go.Nk
open Go.RowKit
section
variable {P:Program} {K F F':Nat->Prop} {σ σ':Nat->Option Nat} {hp cJ:List ak} {w w':World}
theorem Blk.lt{g z}{es}{R}(h:Blk w g z es R):g<w.heap.size:=by
 obtain⟨c,ty,hh,_⟩:=h;rcases Nat.lt_or_ge g w.heap.size with h'|h'
 ·exact h'
 ·rw[Array.getElem?_eq_none h']at hh;cases hh
theorem P5{w w':World}{g}(h:w'.heap[g]? =w.heap[g]?):Sa w' g=Sa w g:=by unfold Sa;rw[h]
theorem bF.wV [Inhabited Env](hs:bF K F σ hp w){h}{o:ak}(ho:hp[h]? =some o)(hd:o.k≠ .dead){g}(hg:σ h=some g):g<w.heap.size:=by
 have:=hs.obj h o ho;unfold fT at this;split at this
 ·exact absurd (by assumption) hd
 ·rcases this with⟨_,h0⟩|⟨g',kz,_,_,hb⟩
  ·rw[hg]at h0;cases h0
  ·rw[hg]at kz;injection kz with e;subst e;exact hb.lt
 ·rcases this with⟨_,h0⟩|⟨g',kz,_,hb⟩
  ·rw[hg]at h0;cases h0
  ·rw[hg]at kz;injection kz with e;subst e;exact hb.lt
 ·obtain⟨g',kz,_,_,hb⟩:=this;rw[hg]at kz;injection kz with e;subst e;exact hb.lt
 ·obtain⟨_,g',kz,_,_,hb⟩:=this;rw[hg]at kz;injection kz with e;subst e;exact hb.lt
theorem bF.acR [Inhabited Env](hs:bF K F σ hp w){h}{o:ak}(ho:hp[h]? =some o)(hd:o.k.mut){g}(hg:σ h=some g):¬F g/\¬K g:=by
 have:=hs.obj h o ho;unfold fT at this;rcases hd with hd|hd|⟨es,hd⟩<;>rw[hd]at this<;>dsimp only at this
 ·rcases this with⟨_,h0⟩|⟨g',kz,h1,h2,hb⟩
  ·rw[hg]at h0;cases h0
  ·rw[hg]at kz;injection kz with e;subst e;exact⟨h1,h2⟩
 ·obtain⟨g',kz,h1,h2,hb⟩:=this;rw[hg]at kz;injection kz with e;subst e;exact⟨h1,h2⟩
 ·obtain⟨_,g',kz,h1,h2,hb⟩:=this;rw[hg]at kz;injection kz with e;subst e;exact⟨h1,h2⟩
theorem bF.alr [Inhabited Env](hs:bF K F σ hp w){h}{o:ak}(ho:hp[h]? =some o)(hd:o.k= .sY){g}(hg:σ h=some g):F g:=by
 have:=hs.obj h o ho;unfold fT at this;rw[hd]at this;dsimp only at this;rcases this with⟨_,h0⟩|⟨g',kz,h1,hb⟩
 ·rw[hg]at h0;cases h0
 ·rw[hg]at kz;injection kz with e;subst e;exact h1
theorem als(k:Kd)(hd:k≠ .dead)(hm:¬k.mut):k= .sY:=by
 cases k
 ·exact absurd (.inl rfl) hm
 ·exact absurd (.inr (.inl rfl)) hm
 ·rfl
 ·exact absurd rfl hd
 ·exact absurd (.inr (.inr ⟨_,rfl⟩)) hm
theorem mA{k:Kd}(h:k= .loc):k.mut:= .inr (.inl h)
theorem P7{k:Kd}(h:k.mut):k≠ .dead:=by rcases h with e|e|⟨_,e⟩<;>rw[e]<;>simp
structure Ir(K F:Nat->Prop)(σ:Nat->Option Nat)(hp:List ak)(w:World)(h:Nat)(o:ak)(F':Nat->Prop)(σ':Nat->Option Nat)(cJ:List ak)(w':World):Prop where
 os:w'.os=w.os
 tape:w'.tape=w.tape
 output:w'.output=w.output
 size:w.heap.size<=w'.heap.size
 hF:∀b,F b->F' b
 newF:∀b,F' b->F b\/w.heap.size<=b
 Qh:∀b,F' b->b<w'.heap.size
 heap:∀b,b<w.heap.size->(∀oh,hp[h]? =some oh->oh.k.mut->σ h≠some b)->w'.heap[b]? =w.heap[b]?
 z8:(h<hp.length/\cJ=hp.set h o)\/(h=hp.length/\cJ=hp++[o])
 sig:∀h',h'≠h->σ' h'=σ h'
 Bt:∀g,σ' h=some g->(σ h=some g/\∃oh,hp[h]? =some oh/\oh.k.mut)\/w.heap.size<=g
 grow:∀oh,hp[h]? =some oh->(oh.k.mut\/(oh.es=[]/\o.es≠[]))/\oh.es.length<=o.es.length/\(o.es.length=oh.es.length->o.k≠ .dead->o.z=oh.z/\σ' h=σ h/\∀g,σ h=some g->Sa w' g=Sa w g)
theorem Ir.get{h}{o}(c:Ir K F σ hp w h o F' σ' cJ w'):cJ[h]? =some o:=by
 rcases c.z8 with⟨hl,rfl⟩|⟨rfl,rfl⟩
 ·simp[hl]
 ·simp
theorem Ir.rC{h}{o}(c:Ir K F σ hp w h o F' σ' cJ w'){h'}(bw:h'≠h):cJ[h']? =hp[h']? :=by
 rcases c.z8 with⟨hl,rfl⟩|⟨rfl,rfl⟩
 ·rw[List.getElem?_set_ne (Ne.symm bw)]
 ·rcases Nat.lt_or_ge h' hp.length with h1|h1
  ·rw[List.getElem?_append_left h1]
  ·rw[List.getElem?_eq_none h1,List.getElem?_eq_none (by simp;omega)]
theorem Ir.Ud [Inhabited Env]{h}{o}(c:Ir K F σ hp w h o F' σ' cJ w')(hs:bF K F σ hp w){b}(hb:F b\/K b):w'.heap[b]? =w.heap[b]? :=by refine c.heap b (hb.elim (hs.fb b) (hs.kb b)) λoh tg hm e=> ?_;obtain⟨h1,h2⟩:=hs.acR tg hm e;exact hb.elim h1 h2
theorem Ir.vY [Inhabited Env]{h}{o}(c:Ir K F σ hp w h o F' σ' cJ w')(hs:bF K F σ hp w){h'}{o':ak}(bw:h'≠h)(ey:hp[h']? =some o')(hd:o'.k≠ .dead){g}(hg:σ h'=some g):
 w'.heap[g]? =w.heap[g]? :=by
 by_cases hm:o'.k.mut
 ·exact c.heap g (hs.wV ey hd hg) λoh tg hmh e=>bw (hs.inj _ _ _ _ _ ey hm tg hmh hg e)
 ·exact c.Ud hs (.inl (hs.alr ey (als _ hd hm) hg))
theorem Ir.hm [Inhabited Env]{h}{o}(c:Ir K F σ hp w h o F' σ' cJ w')(hs:bF K F σ hp w):HM F σ hp w F' σ' cJ w':=by
 refine⟨c.hF,λb hb=>c.Ud hs (.inl hb),?_,λh' o' ey=> ?_⟩
 ·rcases c.z8 with⟨hl,rfl⟩|⟨rfl,rfl⟩<;>simp
 ·by_cases bw:h'=h
  ·subst bw;obtain⟨hm,g1,g2⟩:=c.grow o' ey;refine⟨o,c.get,g1,λhd he=>⟨?_,g2 he hd⟩⟩;rcases hm with e|⟨e1,e2⟩
   ·exact P7 e
   ·rw[e1]at he;exact absurd (List.eq_nil_of_length_eq_zero he) e2
  ·refine⟨o',(c.rC bw).trans ey,Nat.le_refl _,λhd _=>⟨hd,rfl,c.sig _ bw,λg hg=>P5 (c.vY hs bw ey hd hg)⟩⟩
theorem Ir.sim [Inhabited Env]{h}{o}(c:Ir K F σ hp w h o F' σ' cJ w')(hs:bF K F σ hp w)(ho:fT K F' σ' cJ w' h o):bF K F' σ' cJ w':=by
 have hm:=c.hm hs;refine⟨λh' o' ey=> ?_,λh1 h2 o1 o2 g e1 m1 e2 m2 s1 s2=> ?_,c.Qh,λb hb=>Nat.lt_of_lt_of_le (hs.kb b hb) c.size,hs.mf.mono hm.bS hm.mono⟩
 ·by_cases bw:h'=h
  ·subst bw;rw[c.get]at ey;injection ey with ey;subst ey;exact ho
  ·rw[c.rC bw]at ey;have old:=hs.obj _ _ ey;have hk:=λ(hd:o'.k≠ .dead) (g:Nat) (hg:σ h'=some g)=>c.vY hs bw ey hd hg;have nF:∀g,g<w.heap.size->¬F g->¬F' g:=λg hl hn hF=>(c.newF g hF).elim hn (λh=>by omega);unfold fT at old|-;split
   ·trivial
   ·rename_i fE;rw[fE]at old;dsimp only at old;rcases old with⟨h0,h1⟩|⟨g,hg,h1,h2,hb⟩
    ·exact .inl ⟨h0,(c.sig _ bw).trans h1⟩
    ·exact .inr ⟨g,(c.sig _ bw).trans hg,nF g hb.lt h1,h2,hb.mono (hk (by rw[fE];simp) g hg) λd v h=>⟨h.1.mono hm.mono hm.bS,h.2⟩⟩
   ·rename_i fE;rw[fE]at old;dsimp only at old;rcases old with⟨h0,h1⟩|⟨g,hg,h1,hb⟩
    ·exact .inl ⟨h0,(c.sig _ bw).trans h1⟩
    ·exact .inr ⟨g,(c.sig _ bw).trans hg,c.hF _ h1,hb.mono (hk (by rw[fE];simp) g hg) λd v h=>⟨h.1.mono hm.mono hm.bS,h.2⟩⟩
   ·rename_i fE;rw[fE]at old;dsimp only at old;obtain⟨g,hg,h1,h2,hb⟩:=old;exact⟨g,(c.sig _ bw).trans hg,nF g hb.lt h1,h2,hb.mono (hk (by rw[fE];simp) g hg) λd v h=>h.mono hm⟩
   ·rename_i fE;rw[fE]at old;dsimp only at old;obtain⟨h0,g,hg,h1,h2,hb⟩:=old;exact⟨h0,g,(c.sig _ bw).trans hg,nF g hb.lt h1,h2,hb.mono (hk (by rw[fE];simp) g hg) λd v h=>⟨h.1.mono hm.mono hm.bS,h.2⟩⟩
 ·by_cases n1:h1=h
  ·by_cases n2:h2=h
   ·rw[n1,n2]
   ·exfalso;subst n1;rw[c.rC n2]at e2;rw[c.sig _ n2]at s2;have hl2:=hs.wV e2 (P7 m2) s2;rcases c.Bt g s1 with⟨sg,oh,tg,hmh⟩|hge
    ·exact n2 (hs.inj _ _ _ _ _ e2 m2 tg hmh s2 sg)
    ·omega
  ·by_cases n2:h2=h
   ·exfalso;subst n2;rw[c.rC n1]at e1;rw[c.sig _ n1]at s1;have Xe:=hs.wV e1 (P7 m1) s1;rcases c.Bt g s2 with⟨sg,oh,tg,hmh⟩|hge
    ·exact n1 (hs.inj _ _ _ _ _ e1 m1 tg hmh s1 sg)
    ·omega
   ·rw[c.rC n1]at e1;rw[c.rC n2]at e2;rw[c.sig _ n1]at s1;rw[c.sig _ n2]at s2;exact hs.inj _ _ _ _ _ e1 m1 e2 m2 s1 s2
theorem Ir.yb [Inhabited Env]{h}{o}(c:Ir K F σ hp w h o F' σ' cJ w')(hs:bF K F σ hp w):iw K F w F' w':=
 ⟨c.os,c.tape,c.output,c.size,λb hb=>c.Ud hs (.inr hb),λb hb=>c.Ud hs (.inl hb),c.hF,λb hb=>(c.newF b hb).imp id λh hk=>by have:=hs.kb b hk;omega⟩
theorem bF.ext [Inhabited Env](hs:bF K F σ hp w)(os:w'.os=w.os)(tape:w'.tape=w.tape)(output:w'.output=w.output)(size:w.heap.size<=w'.heap.size)(heap:∀b,b<w.heap.size->w'.heap[b]? =w.heap[b]?)
 (hF:∀b,F b->F' b) (newF:∀b,F' b->F b\/w.heap.size<=b) (Qh:∀b,F' b->b<w'.heap.size):
 bF K F' σ hp w'/\iw K F w F' w'/\HM F σ hp w F' σ hp w':=by
 have hm:HM F σ hp w F' σ hp w':=⟨hF,λb hb=>heap b (hs.fb b hb),Nat.le_refl _,λh o ho=>⟨o,ho,Nat.le_refl _,λhd _=>⟨hd,rfl,rfl,λg hg=>P5 (heap g (hs.wV ho hd hg))⟩⟩⟩;refine⟨⟨λh o ho=> ?_,hs.inj,Qh,λb hb=>Nat.lt_of_lt_of_le (hs.kb b hb) size,hs.mf.mono hm.bS hm.mono⟩,⟨os,tape,output,size,λb hb=>heap b (hs.kb b hb),λb hb=>heap b (hs.fb b hb),hF,λb hb=>(newF b hb).imp id λh hk=>by have:=hs.kb b hk;omega⟩,hm⟩;have old:=hs.obj _ _ ho;have nF:∀g,g<w.heap.size->¬F g->¬F' g:=λg hl hn hF=>(newF g hF).elim hn (λh=>by omega);unfold fT at old|-;split
 ·trivial
 ·rename_i fE;rw[fE]at old;dsimp only at old;rcases old with⟨h0,h1⟩|⟨g,hg,h1,h2,hb⟩
  ·exact .inl ⟨h0,h1⟩
  ·exact .inr ⟨g,hg,nF g hb.lt h1,h2,hb.mono (heap g hb.lt) λd v h=>⟨h.1.mono hm.mono hm.bS,h.2⟩⟩
 ·rename_i fE;rw[fE]at old;dsimp only at old;rcases old with⟨h0,h1⟩|⟨g,hg,h1,hb⟩
  ·exact .inl ⟨h0,h1⟩
  ·exact .inr ⟨g,hg,hF _ h1,hb.mono (heap g hb.lt) λd v h=>⟨h.1.mono hm.mono hm.bS,h.2⟩⟩
 ·rename_i fE;rw[fE]at old;dsimp only at old;obtain⟨g,hg,h1,h2,hb⟩:=old;exact⟨g,hg,nF g hb.lt h1,h2,hb.mono (heap g hb.lt) λd v h=>h.mono hm⟩
 ·rename_i fE;rw[fE]at old;dsimp only at old;obtain⟨h0,g,hg,h1,h2,hb⟩:=old;exact⟨h0,g,hg,nF g hb.lt h1,h2,hb.mono (heap g hb.lt) λd v h=>⟨h.1.mono hm.mono hm.bS,h.2⟩⟩
theorem bF.freeze [Inhabited Env](hs:bF K F σ hp w){h}{o:ak}(ho:hp[h]? =some o)(hk:o.k= .aN):
 bF K (λb=>F b\/σ h=some b) σ (hp.set h {o with k:= .sY}) w/\iw K F w (λb=>F b\/σ h=some b) w/\HM F σ hp w (λb=>F b\/σ h=some b) σ (hp.set h {o with k:= .sY}) w:=by
 have hl:h<hp.length:=by
  rcases Nat.lt_or_ge h hp.length with h'|h'
  ·exact h'
  ·rw[List.getElem?_eq_none h']at ho;cases ho
 have Dc:o.k≠ .dead:=by rw[hk];simp
 have afe:∀h',h'≠h->(hp.set h {o with k:= .sY})[h']? =hp[h']? :=λh' bw=>by rw[List.getElem?_set_ne (Ne.symm bw)]
 have hm:HM F σ hp w (λb=>F b\/σ h=some b) σ (hp.set h {o with k:= .sY}) w:=by
  refine⟨λb hb=> .inl hb,λb hb=>rfl,by simp,λh' o' ey=> ?_⟩;by_cases bw:h'=h
  ·subst bw;rw[ho]at ey;injection ey with e;subst e;exact⟨{o with k:= .sY},by simp[hl],Nat.le_refl _,λ_ _=>⟨Dc,rfl,rfl,λ_ _=>rfl⟩⟩
  ·exact⟨o',(afe _ bw).trans ey,Nat.le_refl _,λhd _=>⟨hd,rfl,rfl,λ_ _=>rfl⟩⟩
 refine⟨⟨λh' o' ey=> ?_,λh1 h2 o1 o2 g e1 m1 e2 m2 s1 s2=> ?_,λb hb=>hb.elim (hs.fb b) λe=>hs.wV ho Dc e,hs.kb,hs.mf.mono hm.bS hm.mono⟩,⟨rfl,rfl,rfl,Nat.le_refl _,λ_ _=>rfl,λ_ _=>rfl,λb hb=> .inl hb,λb hb=>hb.imp id λe=>(hs.acR ho (.inl hk) e).2⟩,hm⟩
 ·by_cases bw:h'=h
  ·subst bw;have e:o'={o with k:= .sY}:=by simpa[hl]using ey.symm
   subst e;have old:=hs.obj _ _ ho;unfold fT at old|-;rw[hk]at old;dsimp only at old|-;rcases old with h0|⟨g,hg,h1,h2,hb⟩
   ·exact .inl h0
   ·exact .inr ⟨g,hg,.inr hg,hb.mono rfl λd v h=>⟨h.1.mono hm.mono hm.bS,h.2⟩⟩
  ·rw[afe _ bw]at ey;have old:=hs.obj _ _ ey;have nF:∀(zX:o'.k.mut) (g:Nat),σ h'=some g->¬F g->¬(F g\/σ h=some g):=λzX g hg hn hF=>hF.elim hn λe=>bw (hs.inj _ _ _ _ _ ey zX ho (.inl hk) hg e);unfold fT at old|-;split
   ·trivial
   ·rename_i fE;rw[fE]at old;dsimp only at old;rcases old with⟨h0,h1⟩|⟨g,hg,h1,h2,hb⟩
    ·exact .inl ⟨h0,h1⟩
    ·exact .inr ⟨g,hg,nF (.inl fE) g hg h1,h2,hb.mono rfl λd v h=>⟨h.1.mono hm.mono hm.bS,h.2⟩⟩
   ·rename_i fE;rw[fE]at old;dsimp only at old;rcases old with⟨h0,h1⟩|⟨g,hg,h1,hb⟩
    ·exact .inl ⟨h0,h1⟩
    ·exact .inr ⟨g,hg,.inl h1,hb.mono rfl λd v h=>⟨h.1.mono hm.mono hm.bS,h.2⟩⟩
   ·rename_i fE;rw[fE]at old;dsimp only at old;obtain⟨g,hg,h1,h2,hb⟩:=old;exact⟨g,hg,nF (.inr (.inl fE)) g hg h1,h2,hb.mono rfl λd v h=>h.mono hm⟩
   ·rename_i fE;rw[fE]at old;dsimp only at old;obtain⟨h0,g,hg,h1,h2,hb⟩:=old;exact⟨h0,g,hg,nF (.inr (.inr ⟨_,fE⟩)) g hg h1,h2,hb.mono rfl λd v h=>⟨h.1.mono hm.mono hm.bS,h.2⟩⟩
 ·have sY:∀hh oo,(hp.set h {o with k:= .sY})[hh]? =some oo->oo.k.mut->hh≠h:=by
   intro hh oo e m ee;subst ee;have:oo={o with k:= .sY}:=by simpa[hl]using e.symm
   subst this;rcases m with m|m|⟨_,m⟩<;>cases m
  have n1:=sY _ _ e1 m1;have n2:=sY _ _ e2 m2;rw[afe _ n1]at e1;rw[afe _ n2]at e2;exact hs.inj _ _ _ _ _ e1 m1 e2 m2 s1 s2
end
end Go.Nk

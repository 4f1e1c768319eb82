/- The data level: values, heaps, operations and codes of a small functional reading of the program's code. -/
import Derived.WalkKit
import Derived.Deep.AppendSrc
import Derived.Deep.Draws
import Derived.Laws.StructEq
theorem BB:True:=⟨⟩
abbrev BS:=List (List UInt8)
abbrev Bd:=List (List Int)
abbrev B3:=List UInt8
abbrev Ba:=List Int
abbrev BI:=Option Nat
theorem ab:type_of% @Bool.and_eq_true:=@Bool.and_eq_true
theorem ba:type_of% @if_neg:=@if_neg
theorem ed:type_of% @List.mem_of_getElem?:=@List.mem_of_getElem?
theorem gr:type_of% @if_pos:=@if_pos
theorem ir:type_of% @decide_eq_true_eq:=@decide_eq_true_eq
theorem lU:type_of% @eq_true:=@eq_true
theorem pc:type_of% @List.getElem?_eq_some_iff:=@List.getElem?_eq_some_iff
theorem pt:type_of% @List.mem_append:=@List.mem_append
theorem p0:type_of% @List.map_cons:=@List.map_cons
theorem tx:type_of% @List.getElem?_eq_getElem:=@List.getElem?_eq_getElem
theorem vc:type_of% @List.take_of_length_le:=@List.take_of_length_le
theorem xz:type_of% @List.append_nil:=@List.append_nil
theorem AI:type_of% @Nat.zero_le:=@Nat.zero_le
theorem AN:type_of% @Bool.false_eq_true:=@Bool.false_eq_true
theorem AS:type_of% @List.length_append:=@List.length_append
theorem AT:type_of% @List.append_assoc:=@List.append_assoc
theorem By:type_of% @Nat.le_refl:=@Nat.le_refl
theorem BE:type_of% @List.all_eq_true:=@List.all_eq_true
theorem BY:type_of% @List.getD_eq_getElem?_getD:=@List.getD_eq_getElem?_getD
theorem DD:type_of% @List.map_nil:=@List.map_nil
theorem DO:type_of% @List.cons.injEq:=@List.cons.injEq
theorem GB:type_of% @Option.some.injEq:=@Option.some.injEq
theorem GC:type_of% @Int.toNat_natCast:=@Int.toNat_natCast
theorem GO:type_of% @beq_iff_eq:=@beq_iff_eq
theorem It:type_of% @List.mem_map:=@List.mem_map
theorem IF:type_of% @List.getElem?_append_right:=@List.getElem?_append_right
theorem IN:type_of% @List.map_append:=@List.map_append
theorem IS:type_of% @List.length_cons:=@List.length_cons
theorem IT:type_of% @Bool.and_self:=@Bool.and_self
theorem MM:type_of% @List.all_cons:=@List.all_cons
theorem M9:type_of% @List.getElem?_map:=@List.getElem?_map
theorem NO:type_of% @List.mem_cons:=@List.mem_cons
theorem Of:type_of% @decide_eq_false_iff_not:=@decide_eq_false_iff_not
theorem OF:type_of% @List.getD_cons_zero:=@List.getD_cons_zero
theorem ON:type_of% @decide_eq_true:=@decide_eq_true
theorem OR:type_of% @List.getElem?_append_left:=@List.getElem?_append_left
theorem Pd:type_of% @Bool.true_and:=@Bool.true_and
theorem Pe:type_of% @List.length_map:=@List.length_map
theorem PC:type_of% @List.mem_filter:=@List.mem_filter
theorem SO:type_of% @beq_eq_false_iff_ne:=@beq_eq_false_iff_ne
theorem TO:type_of% @forall_const:=@forall_const
theorem UP:type_of% @Nat.add_zero:=@Nat.add_zero
theorem Xs:type_of% @Option.map_eq_some_iff:=@Option.map_eq_some_iff
theorem Xv:type_of% @and_true:=@and_true
theorem XN:type_of% @List.mem_cons_of_mem:=@List.mem_cons_of_mem
theorem Z7:type_of% @decide_eq_false:=@decide_eq_false
theorem Z8:type_of% @List.drop_of_length_le:=@List.drop_of_length_le
theorem aaa:type_of% @Bool.not_eq_true':=@Bool.not_eq_true'
theorem aab:type_of% @List.set_append_right:=@List.set_append_right
theorem Ca:type_of% @List.getD_cons_succ:=@List.getD_cons_succ
theorem Cy:type_of% @Int.eq_ofNat_of_zero_le:=@Int.eq_ofNat_of_zero_le
theorem Bz:type_of% @List.nil_append:=@List.nil_append
theorem C3:type_of% @Option.bind_some:=@Option.bind_some
theorem Cb:type_of% @Bool.false_ne_true:=@Bool.false_ne_true
theorem aba:type_of% @Nat.mul_le_mul_right:=@Nat.mul_le_mul_right
theorem abc:type_of% @Option.some.inj:=@Option.some.inj
theorem Cz:type_of% @List.pairwise_append:=@List.pairwise_append
theorem C4:type_of% @Bool.false_and:=@Bool.false_and
theorem abi:type_of% @beq_self_eq_true:=@beq_self_eq_true
theorem CJ:type_of% @Bool.or_eq_true:=@Bool.or_eq_true
theorem Bp:type_of% @if_true:=@if_true
theorem Cd:type_of% @List.length_nil:=@List.length_nil
theorem C1:type_of% @List.all_nil:=@List.all_nil
theorem Cq:type_of% @List.flatMap_cons:=@List.flatMap_cons
theorem Ck:type_of% @Nat.succ_ne_self:=@Nat.succ_ne_self
theorem Hk:type_of% @List.drop_eq_getElem_cons:=@List.drop_eq_getElem_cons
theorem Cr:type_of% @List.cons_append:=@List.cons_append
theorem Cw:type_of% @List.filter_cons:=@List.filter_cons
theorem FT:type_of% @List.set_append_left:=@List.set_append_left
theorem adm:type_of% @List.getElem?_of_mem:=@List.getElem?_of_mem
theorem Ef:type_of% @Nat.lt_of_lt_of_le:=@Nat.lt_of_lt_of_le
theorem ME:type_of% @List.eq_nil_of_length_eq_zero:=@List.eq_nil_of_length_eq_zero
theorem Ce:type_of% @Prod.mk.injEq:=@Prod.mk.injEq
theorem Bt:type_of% @true_and:=@true_and
theorem FU:type_of% @Bool.not_eq_false':=@Bool.not_eq_false'
theorem FW:type_of% @List.mem_singleton:=@List.mem_singleton
theorem Bv:type_of% @if_false:=@if_false
theorem Eg:type_of% @List.mem_flatMap:=@List.mem_flatMap
theorem FX:type_of% @List.ext_getElem?:=@List.ext_getElem?
theorem Fa:type_of% @List.getElem?_set:=@List.getElem?_set
theorem GI:type_of% @Option.isSome_none:=@Option.isSome_none
theorem Fb:type_of% @Bool.not_eq_true:=@Bool.not_eq_true
theorem Ch:type_of% @Int.le_refl:=@Int.le_refl
theorem J8:type_of% @Bool.or_eq_false_iff:=@Bool.or_eq_false_iff
theorem C2:type_of% @congrArg:=@congrArg
theorem D0:type_of% @Nat.le_trans:=@Nat.le_trans
theorem MF:type_of% @List.length_eq_one_iff:=@List.length_eq_one_iff
theorem Eh:type_of% @List.take_nil:=@List.take_nil
theorem KU:type_of% @List.map_congr_left:=@List.map_congr_left
theorem Br:type_of% @ne_eq:=@ne_eq
theorem Ei:type_of% @List.map_map:=@List.map_map
theorem MG:type_of% @List.getElem?_set_ne:=@List.getElem?_set_ne
theorem KV:type_of% @List.mem_cons_self:=@List.mem_cons_self
theorem GJ:type_of% @Bool.and_true:=@Bool.and_true
theorem CD:type_of% @Eq.symm:=@Eq.symm
theorem GK:type_of% @Nat.lt_or_ge:=@Nat.lt_or_ge
theorem GL:type_of% @Nat.zero_add:=@Nat.zero_add
theorem Hl:type_of% @List.any_cons:=@List.any_cons
theorem CV:type_of% @dif_pos:=@dif_pos
theorem MH:type_of% @List.pairwise_map:=@List.pairwise_map
theorem OT:type_of% @List.length_pos_iff:=@List.length_pos_iff
theorem Ka:type_of% @Option.map_some:=@Option.map_some
theorem Kb:type_of% @List.find?_cons:=@List.find?_cons
theorem V2:type_of% @Classical.byContradiction:=@Classical.byContradiction
theorem V3:type_of% @List.mem_of_find?_eq_some:=@List.mem_of_find?_eq_some
theorem MJ:type_of% @List.getElem_mem:=@List.getElem_mem
theorem OV:type_of% @Option.isSome_some:=@Option.isSome_some
theorem OW:type_of% @List.pairwise_cons:=@List.pairwise_cons
theorem GM:type_of% @Nat.add_mul:=@Nat.add_mul
theorem J9:type_of% @List.cons.inj:=@List.cons.inj
theorem V5:type_of% @Nat.add_sub_cancel_left:=@Nat.add_sub_cancel_left
theorem Rl:type_of% @List.take_succ_cons:=@List.take_succ_cons
theorem Rm:type_of% @List.getElem_of_mem:=@List.getElem_of_mem
theorem Ro:type_of% @bne_eq_false_iff_eq:=@bne_eq_false_iff_eq
theorem Hm:type_of% @decide_true:=@decide_true
theorem Kc:type_of% @false_implies:=@false_implies
theorem Rq:type_of% @List.getElem?_take:=@List.getElem?_take
theorem Ma:type_of% @Bool.and_false:=@Bool.and_false
theorem Ru:type_of% @Int.cast_ofNat_Int:=@Int.cast_ofNat_Int
theorem V6:type_of% @Bool.and_eq_false_imp:=@Bool.and_eq_false_imp
theorem Ke:type_of% @implies_true:=@implies_true
theorem Mc:type_of% @Bool.false_or:=@Bool.false_or
theorem XD:type_of% @List.getElem?_cons_succ:=@List.getElem?_cons_succ
theorem S0:type_of% @List.length_drop:=@List.length_drop
theorem S1:type_of% @Option.getD_some:=@Option.getD_some
theorem V7:type_of% @List.zip_cons_cons:=@List.zip_cons_cons
theorem S2:type_of% @List.foldl_cons:=@List.foldl_cons
theorem XK:type_of% @List.length_replicate:=@List.length_replicate
theorem XO:type_of% @List.getElem?_eq_none:=@List.getElem?_eq_none
theorem S3:type_of% @Nat.not_lt_zero:=@Nat.not_lt_zero
theorem V8:type_of% @Bool.not_eq_false:=@Bool.not_eq_false
theorem V9:type_of% @Decidable.not_not:=@Decidable.not_not
theorem Kf:type_of% @bne_iff_ne:=@bne_iff_ne
theorem Oa:type_of% @Int.ofNat_lt:=@Int.ofNat_lt
theorem VB:type_of% @List.take_length:=@List.take_length
theorem On:type_of% @List.any_nil:=@List.any_nil
set_option linter.all false
namespace Go.Nk
open Go.RowKit
inductive J where
 |undef
 |int (k:IntKind) (n:Int)
 |bool (b:Bool)
 |str (s:B3)
 |nil
 |sl (es:List (List J))
 |own (h L off len:Nat)
 |ptr (h L i j:Nat)
 |ref (cs:(List J))
 |rf
 |agg (cs:(List J))
 |b9 (vs:(List J))
 |Bg (f:FuncId) (Bb:(List J))
 |BD (f:FuncId) (fst:(List J))
 |P9 (l:Nat)
 |mp (h:Nat)
 |Oq (t:TypeId) (d:J)
 |Hy
abbrev Ab:=List J
instance:Inhabited J:=⟨.undef⟩
inductive Kd where
 |aV|loc|A6|dead
 |mp (es:List (B3×J))
noncomputable section
open Classical in
instance:DecidableEq Kd
 | .aV,.aV| .loc,.loc| .A6,.A6| .dead,.dead=>isTrue rfl
 | .mp a,.mp b=>if h:a=b then isTrue (h▸rfl)else isFalse λe=>h (by injection e)
 | .aV,.loc| .aV,.A6| .aV,.dead| .aV,.mp _| .loc,.aV| .loc,.A6| .loc,.dead| .loc,.mp _| .A6,.aV| .A6,.loc| .A6,.dead| .A6,.mp _
 | .dead,.aV| .dead,.loc| .dead,.A6| .dead,.mp _| .mp _,.aV| .mp _,.loc| .mp _,.A6| .mp _,.dead=>isFalse (by intro h;cases h)
structure ae where
 k:Kd
 z:Nat
 es:List Ab
instance:Inhabited ae:=⟨⟨.dead,0,[]⟩⟩
def J.one:J->Bool
 | .agg _| .b9 _| .undef=>false
 |_=>true
def J.bl:J->Bool
 | .int .. | .bool _| .str _| .nil| .sl .. | .ref _| .rf| .Oq .. =>true
 |_=>false
def J.D1:J->Bool
 | .undef=>true
 |_=>false
def cellAt(es:List Ab)(i j:Nat):Option J:=(es[i]?).bind (·[j]?)
def get(n:Nat):List (Nat×J)->J
 |[]=> .undef
 |(m,d)::r=>if n=m then d else get n r
@[simp] theorem get_nil(n:Nat):get n []= .undef:=rfl
theorem cS(n m:Nat)(d:J)(r:List (Nat×J)):get n ((m,d)::r)=if n=m then d else get n r:=rfl
structure DS where
 R:List (Nat×J)
 B:List ae
inductive DA where
 |t (n:Nat)
 |c (d:J)
def DA.ev(R:List (Nat×J)):DA->J
 | .t n=>get n R
 | .c d=>d
structure o9 where
 pre:Prop
 val:J
 B:List ae
def no:o9:=⟨False,.undef,[]⟩
def bitsOf(op:BinOp)(k:IntKind)(x y:Int):Int:=
 let a:=BitVec.ofInt k.bits x;let b:=BitVec.ofInt k.bits y;match op with
 | .and=>k.wrap (a&&&b).toNat
 | .or=>k.wrap (a|||b).toNat
 | .xor=>k.wrap (a^^^b).toNat
 |_=>k.wrap (a&&& ~~~b).toNat
def cX(op:BinOp)(k:IntKind)(a b:Int):Prop×J:=
 match op with
 | .add=>(True,.int k (k.wrap (a+b)))
 | .sub=>(True,.int k (k.wrap (a-b)))
 | .mul=>(True,.int k (k.wrap (a*b)))
 | .quo=>(b≠0,.int k (k.wrap (a.tdiv b)))
 | .rem=>(b≠0,.int k (a.tmod b))
 | .and| .or| .xor| .andNot=>(True,.int k (bitsOf op k a b))
 | .eql=>(True,.bool (a==b))
 | .neq=>(True,.bool (a !=b))
 | .lss=>(True,.bool (a<b))
 | .leq=>(True,.bool (a<=b))
 | .gtr=>(True,.bool (a>b))
 | .geq=>(True,.bool (a≥b))
 |_=>(False,.undef)
def gj:Nat:=4611686018427387904
def FL(op:BinOp)(a b:B3):Prop×J:=
 match op with
 | .add=>(a.length+b.length<=gj,.str (a++b))
 | .eql=>(True,.bool (a==b))
 | .neq=>(True,.bool (!(a==b)))
 | .lss=>(True,.bool (Op.bytesLess a b))
 | .leq=>(True,.bool (Op.bytesLess a b||a==b))
 | .gtr=>(True,.bool (!(Op.bytesLess a b||a==b)))
 | .geq=>(True,.bool (!(Op.bytesLess a b)))
 |_=>(False,.undef)
def eF:List Nat->Ab->Ab->Option Bool
 |[],[],[]=>some true
 |0::ks,.int k a::r,.int k' b::s=>if k=k' then(if a==b then eF ks r s else some false)else none
 |1::ks,.bool a::r,.bool b::s=>if a==b then eF ks r s else some false
 |2::ks,.str a::r,.str b::s=>if a==b then eF ks r s else some false
 |_,_,_=>none
def cN(op:BinOp):J->J->Prop×J
 | .int k a,.int k' b=>
   match op with
   | .shl=>(0<=b,.int k (k.wrap (a*2^(min b.toNat k.bits))))
   | .shr=>(0<=b,.int k (a.fdiv (2^(min b.toNat k.bits))))
   |_=>if k=k' then cX op k a b else(False,.undef)
 | .str a,.str b=>FL op a b
 |_,_=>(False,.undef)
def JV(neg:Bool):J->J->Prop×J
 | .bool a,.bool b=>(True,.bool (if neg then !(a==b)else a==b))
 |_,_=>(False,.undef)
def km(neg:Bool):J->J->Prop×J
 | .rf,.rf=>(True,.bool (!neg))
 | .ref _,.rf| .rf,.ref _=>(True,.bool neg)
 |_,_=>(False,.undef)
def Q2(neg:Bool)(ks:List Nat):J->J->Prop×J
 | .agg a,.agg b=>match eF ks a b with|some r=>(a.length=ks.length/\b.length=ks.length,.bool (if neg then !r else r))|none=>(False,.undef)
 |_,_=>(False,.undef)
def FE(op:UnOp):J->Prop×J
 | .int k n=>
   match op with
   | .neg=>(True,.int k (k.wrap (0-n)))
   | .xor=>(True,.int k (bitsOf .xor k (if k.signed then-1 else k.max) n))
   |_=>(False,.undef)
 | .bool b=>
   match op with
   | .not=>(True,.bool (!b))
   |_=>(False,.undef)
 |_=>(False,.undef)
def aH(B:List ae):J->Prop×Ab
 | .ref cs=>(True,cs)
 | .ptr h L i j=>
   match B[h]? with
   |some o=>if o.k= .dead then(False,[])else(o.es.length=L/\i<L,(o.es.getD i []).drop j)
   |none=>(False,[])
 |_=>(False,[])
def bw(sz:BI)(x:Prop×Ab):Prop×J:=
 match sz with
 |none=>(x.1/\0<x.2.length,x.2.getD 0 .undef)
 |some n=>(x.1/\n<=x.2.length,.agg (x.2.take n))
def cellsOf:J->Ab
 | .agg cs=>cs
 |d=>[d]
def setFrom:Ab->Nat->Ab->Ab
 |row,_,[]=>row
 |row,j,c::cs=>setFrom (row.set j c) (j+1) cs
structure aB2 where
 pre:Prop
 es:List Ab
def bc(B:List ae):J->aB2
 | .nil=>⟨True,[]⟩
 | .sl es=>⟨True,es⟩
 | .own h L off len=>
   match B[h]? with
   |some o=>if o.k= .aV\/o.k= .A6 then⟨o.es.length=L/\off+len<=L,(o.es.drop off).take len⟩else⟨False,[]⟩
   |none=>⟨False,[]⟩
 | .str s=>⟨True,s.map λb=>[.int .u8 b.toNat]⟩
 |_=>⟨False,[]⟩
def iS(B:List ae)(h:Nat):List ae:=
 match B[h]? with
 |some o=>B.set h {o with k:= .A6}
 |none=>B
def uN(B:List ae):J->Prop×J
 | .ptr h L i j=>match B[h]? with
   |some o=>(o.k≠ .dead/\o.es.length=L/\i<L/\∀r∈o.es,∀c∈r,c.bl=true,.ref ((o.es.getD i []).drop j))
   |none=>(False,.undef)
 |d=>(d.bl=true,d)
def kT(B:List ae):Ab->Prop×Ab
 |[]=>(True,[])
 |d::r=>((uN B d).1/\(kT B r).1,(uN B d).2::(kT B r).2)
def ik(B:List ae)(d:J):o9:=
 match d with
 | .own h _ _ _=>⟨(bc B d).pre,.sl (bc B d).es,iS B h⟩
 | .nil=>⟨True,.sl [],B⟩
 | .Bg f cs=>⟨cs.all J.bl=true,.Bg f cs,B⟩
 |_=>if d.bl then⟨True,d,B⟩else⟨False,.undef,B⟩
structure aB3 where
 pre:Prop
 dK:Ab
 B:List ae
def ug(B:List ae):Ab->aB3
 |[]=>⟨True,[],B⟩
 |d::r=>
  let x:=ik B d;let y:=ug x.B r
  ⟨x.pre/\y.pre,x.val::y.dK,y.B⟩
structure aB4 where
 pre:Prop
 dK:List Ab
 B:List ae
def wA(B:List ae):List Ab->aB4
 |[]=>⟨True,[],B⟩
 |d::r=>
  let x:=ug B d;let y:=wA x.B r
  ⟨x.pre/\y.pre,x.dK::y.dK,y.B⟩
def iD(B:List ae):J->o9
 | .agg cs=>let x:=ug B cs;⟨x.pre,.agg x.dK,x.B⟩
 |d=>ik B d
def fH(B:List ae):Ab->aB3
 |[]=>⟨True,[],B⟩
 |d::r=>
  let x:=iD B d;let y:=fH x.B r
  ⟨x.pre/\y.pre,x.val::y.dK,y.B⟩
def b8(B:List ae)(d:J):Prop×J:=
 match d with
 | .own .. =>((bc B d).pre,.sl (bc B d).es)
 | .nil=>(True,.sl [])
 | .Bg f cs=>((kT B cs).1,.Bg f (kT B cs).2)
 |_=>if d.bl then(True,d)else(False,.undef)
def dC:J->Bool
 | .int .. | .bool _| .str _| .rf=>true
 |_=>false
def bX:J->Bool
 | .b9 vs=>vs.all dC
 | .agg vs=>vs.all dC
 |d=>dC d
inductive aT where
 |mv (x:DA)
 |S5 (x:DA)
 |Ol (z:Nat) (x:DA)
 |pick (c a b:DA)
 |bin (op:BinOp) (x y:DA)
 |beq (neg:Bool) (x y:DA)
 |Ot (neg:Bool) (x y:DA)
 |XP (neg:Bool) (ks:List Nat) (x y:DA)
 |un (op:UnOp) (x:DA)
 |conv (k:IntKind) (x:DA)
 |Md (x:DA)
 |Pt (neg:Bool) (x:DA)
 |len (x:DA)
 |VD (x:DA)
 |Hw (mx:Bool) (x y:DA)
 |load (sz:BI) (p:DA)
 |store (n:Nat) (p v:DA)
 |q0 (off:Nat) (p:DA)
 |field (off:Nat) (sz:BI) (x:DA)
 |ra (z:Nat) (x i:DA)
 |mo (n z:Nat) (p i:DA)
 |index (x i:DA)
 |slice (z:Nat) (x:DA) (lo hi mx:Option DA)
 |CM (x:DA) (lo hi:Option DA)
 |make (zero:Ab) (n c:DA)
 |v7 (aV:Bool) (zero:Ab) (parts:List (Option DA))
 |build (zero:Ab) (parts:List (Nat×Nat×DA))
 |alloc (zero:Ab)
 |box (x:DA)
 |append (z:Nat) (s x:DA)
 |extract (i:Nat) (x:DA)
 |re (x:DA)
 |CL (f:FuncId) (Bb:List DA)
 |rY (f:FuncId) (args:List DA)
 |Fj (f:FuncId) (args:List DA)
 |Bm (f:FuncId) (args:List DA)
 |rz (z:Nat) (d:aT)
 |ig (f:FuncId) (args:List DA)
 |ib (f:FuncId) (args:List DA)
 |cl (b z:Nat) (f:FuncId) (args:List DA)
 |Bg (h b z:Nat) (f:FuncId) (args:List DA)
 |oD (f:DA) (args:List DA)
 |MT (f:DA) (args:List DA)
 |ei (f:FuncId) (args:List DA)
 |to (b:Nat) (d:aT)
 |rd (d:aT)
 |bad
 |XS (x:DA)
 |S7 (x:DA)
 |home (z:Nat) (x:DA)
 |kn (z:Nat) (zero:Ab) (s n:DA)
 |SP (k:IntKind) (f:FuncId) (p:DA)
 |SA (k:IntKind) (f:FuncId) (p v:DA)
 |copy (z:Nat) (d x:DA)
 |zB
 |SL (m k:DA)
 |Za (m k x:DA)
 |VG (t:TypeId) (x:DA)
 |aa (h:Nat) (zero:Ab)
 |rk (lo:Nat) (d:aT)
 |tk (b lo:Nat) (d:aT)
 |fz (d:aT)
 |im (d:aT)
structure af where
 dst:BI
 op:aT
 guard:Option (Nat×Bool):=none
structure dJ where
 p:FuncId->Ab->Prop×J
 h:FuncId->Ab->List ae->o9
 i:FuncId->Ab->Prop×List Ab
 w:FuncId->Ab->Prop×List Ab
def kM:Nat:=4294967296
def qW:Ab->Nat
 |[.int .i64 0]=>17592186044416
 |_=>4294967296
def fy(x:Option J)(SE:Int):Prop×Int:=
 match x with
 |none=>(True,SE)
 |some (.int _ n)=>(True,n)
 |_=>(False,0)
def xJ(x:J)(lo hi:Option J):Prop×J:=
 match x with
 | .str s=>
   let l:=fy lo 0;let h:=fy hi s.length
   (l.1/\h.1/\0<=l.2/\l.2<=h.2/\h.2<=s.length,.str ((s.take h.2.toNat).drop l.2.toNat))
 |_=>(False,.undef)
def jq(B:List ae)(z:Nat)(x:J)(lo hi mx:Option J):Prop×J:=
 match x with
 | .sl es=>
   let l:=fy lo 0;let h:=fy hi es.length;let m:=fy mx h.2
   ((∀e∈es,e.length=z)/\l.1/\h.1/\m.1/\(mx.isSome=true->hi.isSome=true)/\0<=l.2/\l.2<=h.2/\h.2<=m.2/\m.2<=es.length,.sl ((es.take h.2.toNat).drop l.2.toNat))
 | .own o L off len=>
   let l:=fy lo 0;let h:=fy hi len;let m:=fy mx h.2
   (l.1/\h.1/\m.1/\(mx.isSome=true->hi.isSome=true)/\0<=l.2/\l.2<=h.2/\h.2<=m.2/\m.2<=len/\
    (match B[o]? with|some ob=>ob.k≠ .dead/\ob.z=z/\ob.es.length=L|none=>False),.own o L (off+l.2.toNat) (h.2.toNat-l.2.toNat))
 | .nil=>
   let l:=fy lo 0;let h:=fy hi 0;let m:=fy mx 0
   (l.1/\h.1/\m.1/\(mx.isSome=true->hi.isSome=true)/\l.2=0/\h.2=0/\m.2=0,.nil)
 |_=>(False,.undef)
def fK(B:List ae):Ab->Prop×Ab
 |[]=>(True,[])
 |d::r=>((b8 B d).1/\(fK B r).1,(b8 B d).2::(fK B r).2)
def cz(B:List ae):J->Prop×J
 | .agg cs=>((fK B cs).1,.agg (fK B cs).2)
 |d=>b8 B d
def bq(B:List ae):Ab->Prop×Ab
 |[]=>(True,[])
 |d::r=>((cz B d).1/\(bq B r).1,(cz B d).2::(bq B r).2)
def BR(B eZ:List ae):Prop:=∀(i:Nat) (x:ae),B[i]? =some x->(x.k≠ .dead\/x.es≠[])->eZ[i]? =some x
def bj(C:dJ)(B:List ae)(f:FuncId)(args:Ab):o9:=
 let v:=bq B args;let r:=C.p f v.2
 if bX r.2 then⟨v.1/\r.1,r.2,B⟩else
  let z:=fH B args
  ⟨z.pre/\(C.p f z.dK).1,(C.p f z.dK).2,z.B⟩
def qU(B:List ae)(z:Nat)(s x:J):o9:=
 let src:=bc B x;match s with
 | .nil=>⟨src.pre/\src.es.length<=kM/\(∀e∈src.es,e.length=z),.own B.length src.es.length 0 src.es.length,B++[⟨.aV,z,src.es⟩]⟩
 | .own h L off len=>
   match B[h]? with
   |some o=>
    ⟨src.pre/\(∀e∈src.es,e.length=z)/\o.k= .aV/\o.z=z/\o.es.length=L/\off=0/\len=L/\L+src.es.length<=kM,
     .own h (L+src.es.length) 0 (L+src.es.length),B.set h ⟨.aV,z,o.es++src.es⟩⟩
   |none=>no
 |_=>no
def N1(B:List ae)(z:Nat)(zero:Ab)(s n:J):o9:=
 match n with
 | .int .i64 m=>
   match s with
   | .nil=>⟨0<=m/\m.toNat<=kM,.own B.length m.toNat 0 m.toNat,B++[⟨.aV,z,List.replicate m.toNat zero⟩]⟩
   | .own h L off len=>
     match B[h]? with
     |some o=>
      ⟨0<=m/\o.k= .aV/\o.z=z/\o.es.length=L/\off=0/\len=L/\L+m.toNat<=kM,
       .own h (L+m.toNat) 0 (L+m.toNat),B.set h ⟨.aV,z,o.es++List.replicate m.toNat zero⟩⟩
     |none=>no
   |_=>no
 |_=>no
def jN(B:List ae)(n:Nat)(p v:J):o9:=
 match p with
 | .ptr h L i j=>
   match B[h]? with
   |some o=>
    if o.k= .loc then
     ⟨(cellsOf v).length=n/\o.es.length=L/\i<L/\j+(cellsOf v).length<=(o.es.getD i []).length/\(∀d∈cellsOf v,d.one=true),.b9 [],
       B.set h {o with es:=o.es.set i (setFrom (o.es.getD i []) j (cellsOf v))}⟩
    else if o.k= .aV then
     let y:=ug B (cellsOf v);match y.B[h]? with
     |some o'=>
      ⟨(cellsOf v).length=n/\y.pre/\o'.k= .aV/\o.es.length=L/\i<L/\j+(cellsOf v).length<=(o.es.getD i []).length,.b9 [],
        y.B.set h {o with es:=o.es.set i (setFrom (o.es.getD i []) j y.dK)}⟩
     |none=>no
    else no
   |none=>no
 |_=>no
def VH(B:List ae)(p d:J):o9:=
 match p with
 | .ptr h L i j=>
   match B[h]? with
   |some o=>⟨o.k= .loc/\o.es.length=L/\i<L/\j<(o.es.getD i []).length,.b9 [],B.set h {o with es:=o.es.set i ((o.es.getD i []).set j d)}⟩
   |none=>no
 |_=>no
def bC(cells:Ab)(R:List (Nat×J)):List (Nat×Nat×DA)->Prop×Ab
 |[]=>(True,cells)
 |(off,n,x)::r=>
  let b:=bC (setFrom cells off (cellsOf (x.ev R))) R r
  ((x.ev R).D1=false/\(cellsOf (x.ev R)).length=n/\off+n<=cells.length/\b.1,b.2)
def vN(R:List (Nat×J))(zero:Ab):Option DA->Ab
 |some x=>cellsOf (x.ev R)
 |none=>zero
def bU(R:List (Nat×J))(zero:Ab):Option DA->Bool
 |some x=> !(x.ev R).D1&&(cellsOf (x.ev R)).length==zero.length
 |none=>true
def alive(B:List ae)(h L:Nat):Prop:=
 match B[h]? with
 |some o=>o.k≠ .dead/\o.es.length=L
 |none=>False
def vw:J->BI
 | .ptr h _ _ _=>some h
 | .own h _ _ _=>some h
 | .mp h=>some h
 | .agg [.ptr h _ _ _]=>some h
 |_=>none
def Zn(k:Nat)(d:J):Bool:=d.bl||(match d with| .ptr h _ _ _=>h==k|_=>false)
def Zo(k:Nat)(d:J):Bool:=Zn k d||(match d with| .agg cs=>cs.all (Zn k)|_=>false)
def kq(k:Nat)(d:J):Bool:=Zo k d||(match d with| .BD _ cs=>cs.all (Zo k)|_=>false)
def kx(d:J):Bool:=d.bl||(match d with| .agg cs=>cs.all J.bl|_=>false)
def Cg(k:B3):List (B3×J)->Option J
 |[]=>none
 |e::r=>if k=e.1 then some e.2 else Cg k r
def HO(k:B3)(d:J):List (B3×J)->List (B3×J)
 |[]=>[(k,d)]
 |e::r=>if k=e.1 then(k,d)::r else e::HO k d r
def Kd.D4:Kd->Option (List (B3×J))
 | .mp es=>some es
 |_=>none
def dH(B:List ae):J->Option (List (B3×J))
 | .mp h=>(B[h]?).bind (·.k.D4)
 |_=>none
def Hn:J->Nat
 | .mp h=>h
 |_=>0
def GN:J->Option J
 | .nil=>some (.sl [])
 | .sl es=>some (.sl es)
 |_=>none
def au(C:dJ)(op:aT)(s:DS):o9:=
 match op with
 | .mv x=>⟨True,x.ev s.R,s.B⟩
 | .S5 x=>iD s.B (x.ev s.R)
 | .Ol z x=>match x.ev s.R with
   | .nil=>⟨True,.own s.B.length 0 0 0,s.B++[⟨.aV,z,[]⟩]⟩
   |_=>no
 | .pick c a b=>match c.ev s.R with
   | .bool true=>⟨True,a.ev s.R,s.B⟩
   | .bool false=>⟨True,b.ev s.R,s.B⟩
   |_=>no
 | .bin op x y=>let r:=cN op (x.ev s.R) (y.ev s.R);⟨r.1,r.2,s.B⟩
 | .beq n x y=>let r:=JV n (x.ev s.R) (y.ev s.R);⟨r.1,r.2,s.B⟩
 | .Ot n x y=>match x.ev s.R,y.ev s.R with
   | .ptr h L _ _,.rf=>⟨alive s.B h L,.bool n,s.B⟩
   |a,b=>let r:=km n a b;⟨r.1,r.2,s.B⟩
 | .XP n m x y=>let r:=Q2 n m (x.ev s.R) (y.ev s.R);⟨r.1,r.2,s.B⟩
 | .un op x=>let r:=FE op (x.ev s.R);⟨r.1,r.2,s.B⟩
 | .conv k x=>match x.ev s.R with
   | .int _ n=>⟨True,.int k (k.wrap n),s.B⟩
   |_=>no
 | .Md x=>let r:=bc s.B (x.ev s.R)
   ⟨r.pre/\(match x.ev s.R with| .str _=>False|_=>True)/\(∀e∈r.es,∃n,e=[.int .u8 n]),.str (r.es.map λe=>match e with|[.int _ n]=>UInt8.ofNat n.toNat|_=>0),s.B⟩
 | .Pt n x=>match x.ev s.R with
   | .nil=>⟨True,.bool (!n),s.B⟩
   | .sl []=>⟨True,.Hy,s.B⟩
   | .sl (_::_)=>⟨True,.bool n,s.B⟩
   | .own h L _ len=>⟨alive s.B h L,if 0<len then .bool n else .Hy,s.B⟩
   |_=>no
 | .len x=>match x.ev s.R with
   | .sl es=>⟨True,.int .i64 es.length,s.B⟩
   | .nil=>⟨True,.int .i64 0,s.B⟩
   | .own h L _ n=>⟨alive s.B h L,.int .i64 n,s.B⟩
   |_=>no
 | .VD x=>match x.ev s.R with
   | .str b=>⟨True,.int .i64 b.length,s.B⟩
   |_=>no
 | .Hw mx x y=>match x.ev s.R,y.ev s.R with
   | .int k a,.int k' b=>⟨k=k',.int k (if mx then max a b else min a b),s.B⟩
   |_,_=>no
 | .load sz p=>let r:=bw sz (aH s.B (p.ev s.R));⟨r.1,r.2,s.B⟩
 | .store n p v=>jN s.B n (p.ev s.R) (v.ev s.R)
 | .q0 off p=>match p.ev s.R with
   | .ref cs=>⟨True,.ref (cs.drop off),s.B⟩
   | .ptr h L i j=>⟨alive s.B h L,.ptr h L i (j+off),s.B⟩
   |_=>no
 | .field off sz x=>match x.ev s.R with
   | .agg cs=>let r:=bw sz (True,cs.drop off);⟨r.1,r.2,s.B⟩
   |_=>no
 | .ra z x i=>match x.ev s.R,i.ev s.R with
   | .sl es,.int _ n=>⟨(es.getD n.toNat []).length=z/\0<=n/\n<es.length,.ref (es.getD n.toNat []),s.B⟩
   | .own h L off len,.int _ n=>
     match s.B[h]? with
     |some o=>⟨o.k≠ .dead/\o.z=z/\o.es.length=L/\0<=n/\n<len,.ptr h L (off+n.toNat) 0,s.B⟩
     |none=>no
   |_,_=>no
 | .mo n z p i=>match p.ev s.R,i.ev s.R with
   | .ref cs,.int _ m=>⟨0<=m/\m<n,.ref (cs.drop (m.toNat*z)),s.B⟩
   | .ptr h L i j,.int _ m=>⟨alive s.B h L/\0<=m/\m<n,.ptr h L i (j+m.toNat*z),s.B⟩
   |_,_=>no
 | .index x i=>match x.ev s.R,i.ev s.R with
   | .str b,.int _ n=>⟨0<=n/\n<b.length,.int .u8 (b.getD n.toNat 0).toNat,s.B⟩
   |_,_=>no
 | .CM x lo hi=>let r:=xJ (x.ev s.R) (lo.map (·.ev s.R)) (hi.map (·.ev s.R));⟨r.1,r.2,s.B⟩
 | .slice z x lo hi mx=>let r:=jq s.B z (x.ev s.R) (lo.map (·.ev s.R)) (hi.map (·.ev s.R)) (mx.map (·.ev s.R));⟨r.1,r.2,s.B⟩
 | .make zero n c=>match n.ev s.R,c.ev s.R with
   | .int _ a,.int _ b=>⟨0<=a/\a<=b/\b<=qW zero,.own s.B.length a.toNat 0 a.toNat,s.B++[⟨.aV,zero.length,List.replicate a.toNat zero⟩]⟩
   |_,_=>no
 | .v7 aV zero parts=>
   let es:=parts.map (vN s.R zero);let y:=wA s.B es;let u:=parts.all (bU s.R zero)
   if aV then⟨u=true/\y.pre/\(∀e∈y.dK,e.length=zero.length),.sl y.dK,y.B⟩
   else⟨u=true/\y.pre/\(∀e∈y.dK,e.length=zero.length),.own y.B.length y.dK.length 0 y.dK.length,y.B++[⟨.aV,zero.length,y.dK⟩]⟩
 | .build zero parts=>let b:=bC zero s.R parts;⟨b.1,.agg b.2,s.B⟩
 | .alloc zero=>⟨True,.ptr s.B.length 1 0 0,s.B++[⟨.loc,zero.length,[zero]⟩]⟩
 | .box x=>⟨∀d∈cellsOf (x.ev s.R),d.one=true,.ptr s.B.length 1 0 0,s.B++[⟨.loc,(cellsOf (x.ev s.R)).length,[cellsOf (x.ev s.R)]⟩]⟩
 | .append z a x=>qU s.B z (a.ev s.R) (x.ev s.R)
 | .extract i x=>match x.ev s.R with
   | .b9 vs=>⟨i<vs.length,vs.getD i .undef,s.B⟩
   |_=>no
 | .re x=>match x.ev s.R with
   | .ptr h L i j=>⟨alive s.B h L,.ptr h L i j,s.B⟩
   | .ref cs=>⟨True,.ref cs,s.B⟩
   | .Bg f cs=>⟨True,.Bg f cs,s.B⟩
   | .BD f cs=>⟨True,.BD f cs,s.B⟩
   |_=>no
 | .CL f Bb=>⟨True,.Bg f (Bb.map (·.ev s.R)),s.B⟩
 | .rY f args=>bj C s.B f (args.map (·.ev s.R))
 | .Fj f args=>C.h f (args.map (·.ev s.R)) s.B
 | .ig f args=>⟨∀eZ,BR s.B eZ->C.h f (args.map (·.ev s.R)) eZ=⟨True,(C.h f (args.map (·.ev s.R)) s.B).val,eZ⟩,(C.h f (args.map (·.ev s.R)) s.B).val,s.B⟩
 | .ib f args=>⟨(C.h f (args.map (·.ev s.R)) s.B).pre/\(C.h f (args.map (·.ev s.R)) s.B).B.length=s.B.length/\(∀t,(C.h f (args.map (·.ev s.R)) (s.B++t)).pre/\
  (C.h f (args.map (·.ev s.R)) (s.B++t)).val=(C.h f (args.map (·.ev s.R)) s.B).val/\(C.h f (args.map (·.ev s.R)) (s.B++t)).B=(C.h f (args.map (·.ev s.R)) s.B).B++t),
  (C.h f (args.map (·.ev s.R)) s.B).val,(C.h f (args.map (·.ev s.R)) s.B).B⟩
 | .cl b z f args=>match vw (get b s.R)with
   |some k=>match s.B[k]? with
    |some o=>match (C.h f (args.map (·.ev s.R)) (List.replicate k ⟨.dead,0,[]⟩++[o])).B[k]? with
     |some o'=>⟨o.z=z/\(args.map (·.ev s.R)).all (kq k)=true/\(C.h f (args.map (·.ev s.R)) (List.replicate k ⟨.dead,0,[]⟩++[o])).pre/\o.k= .loc/\(∀r∈o.es,∀d∈r,d.bl=true)/\o'.k= .loc/\o'.es.length=o.es.length/\(∀r∈o'.es,∀d∈r,d.bl=true)/\
      kx (C.h f (args.map (·.ev s.R)) (List.replicate k ⟨.dead,0,[]⟩++[o])).val=true,
      (C.h f (args.map (·.ev s.R)) (List.replicate k ⟨.dead,0,[]⟩++[o])).val,s.B.set k o'⟩
     |none=>no
    |none=>no
   |none=>no
 | .Bg h b z f args=>match vw (get b s.R)with
   |some k=>match s.B[k]?,s.B[h]? with
    |some o,some od=>match (C.h f (args.map (·.ev s.R)) (List.replicate k ⟨.dead,0,[]⟩++[o])).val with
     | .own n L off len=>match (C.h f (args.map (·.ev s.R)) (List.replicate k ⟨.dead,0,[]⟩++[o])).B[k]?,(C.h f (args.map (·.ev s.R)) (List.replicate k ⟨.dead,0,[]⟩++[o])).B[n]? with
       |some o',some ob=>⟨o.z=z/\(args.map (·.ev s.R)).all (kq k)=true/\(C.h f (args.map (·.ev s.R)) (List.replicate k ⟨.dead,0,[]⟩++[o])).pre/\o.k= .loc/\(∀r∈o.es,∀d∈r,d.bl=true)/\o'.k= .loc/\o'.es.length=o.es.length/\(∀r∈o'.es,∀d∈r,d.bl=true)/\
        od.k= .dead/\od.es=[]/\k<n/\ob.k= .aV/\ob.es.length=L/\(L=0->len=0),
        if L=0 then .sl []else .own h L off len,if L=0 then s.B.set k o' else(s.B.set k o').set h ob⟩
       |_,_=>no
     |_=>no
    |_,_=>no
   |none=>no
 | .oD g args=>match g.ev s.R with
   | .Bg f Bb=>bj C s.B f (args.map (·.ev s.R)++Bb)
   | .BD f fst=>bj C s.B f (fst++args.map (·.ev s.R))
   |_=>no
 | .MT g args=>match g.ev s.R with
   | .Bg f Bb=>C.h f (args.map (·.ev s.R)++Bb) s.B
   | .BD f fst=>C.h f (fst++args.map (·.ev s.R)) s.B
   |_=>no
 | .im _=>no
 | .fz _=>no
 | .bad=>no
 | .Bm .. =>no
 | .XS x=>⟨(cellsOf (x.ev s.R)).all J.bl=true,.ref (cellsOf (x.ev s.R)),s.B⟩
 | .S7 x=>match x.ev s.R with| .nil=>⟨True,.int .i64 0,s.B⟩|_=>no
 | .home z x=>match x.ev s.R with
   | .nil=>⟨True,.own s.B.length 0 0 0,s.B++[⟨.aV,z,[]⟩]⟩
   | .own h L off len=>match s.B[h]? with
     |some o=>⟨o.k= .aV/\o.es.length=L/\off=0/\len<=L,.own s.B.length len 0 len,s.B.set h ⟨.dead,o.z,o.es⟩++[⟨.aV,o.z,o.es.take len⟩]⟩
     |none=>no
   |_=>no
 | .kn z zero a n=>N1 s.B z zero (a.ev s.R) (n.ev s.R)
 | .SP k _ p=>match bw none (aH s.B (p.ev s.R))with
   |(r,.int k' n)=>⟨r/\k'=k,.int k n,s.B⟩
   |_=>no
 | .SA k _ p v=>match bw none (aH s.B (p.ev s.R)),v.ev s.R with
   |(r,.int k1 a),.int k2 b=>⟨r/\(VH s.B (p.ev s.R) (.int k (k.wrap (a+b)))).pre/\k1=k/\k2=k,.int k (k.wrap (a+b)),(VH s.B (p.ev s.R) (.int k (k.wrap (a+b)))).B⟩
   |_,_=>no
 | .copy z d x=>let src:=bc s.B (x.ev s.R)
   match d.ev s.R with
   | .own h L off len=>match s.B[h]? with
     |some o=>⟨(match x.ev s.R with| .str _=>False|_=>True)/\src.pre/\(∀e∈src.es,e.length=z)/\o.k= .aV/\o.z=z/\o.es.length=L/\off+len<=L,
      .int .i64 (min src.es.length len:Nat),s.B.set h ⟨.aV,o.z,o.es.take off++src.es.take len++o.es.drop (off+min src.es.length len)⟩⟩
     |none=>no
   |_=>no
 | .zB=>⟨True,.mp s.B.length,s.B++[⟨.mp [],0,[]⟩]⟩
 | .SL m k=>match dH s.B (m.ev s.R),k.ev s.R with
   |some es,.str b=>⟨True,(Cg b es).getD (.sl []),s.B⟩
   |_,_=>no
 | .Za m k x=>match dH s.B (m.ev s.R),k.ev s.R,GN (x.ev s.R)with
   |some es,.str b,some d=>⟨True,.b9 [],s.B.set (Hn (m.ev s.R)) ⟨.mp (HO b d es),0,[]⟩⟩
   |_,_,_=>no
 | .VG t x=>⟨(x.ev s.R).bl=true,.Oq t (x.ev s.R),s.B⟩
 | .aa h zero=>match s.B[h]? with
   |some o=>⟨o.k= .dead/\o.es=[],.ptr h 1 0 0,s.B.set h ⟨.loc,zero.length,[zero]⟩⟩
   |none=>no
 | .rk _ _=>no
 | .tk _ _ _=>no
 | .rd _=>no
 | .rz _ _=>no
 | .to _ _=>no
 | .ei _ _=>no
def aT.kind:aT->Nat
 | .XS _| .S7 _| .mv _| .pick .. | .bin .. | .beq .. | .XP .. | .un .. | .conv .. | .VD _| .Hw .. | .field .. | .index .. | .CM .. | .build .. | .extract .. | .CL .. | .VG .. =>0
 | .SL .. | .Ot .. | .Md _| .Pt .. | .len _| .load .. | .q0 .. | .ra .. | .mo .. | .slice .. | .re _=>1
 | .rY .. | .oD .. | .Bm .. | .S5 _=>2
 | .alloc _| .box _| .make .. | .Ol .. | .zB=>4
 | .v7 .. =>5
 |_=>3
def RB(o:BI)(B cU:List ae):Prop:=∀h,h<B.length->o≠some h->cU[h]? =B[h]?
def Ou(lo:Nat):Option ae->Option ae->Prop
 |some x,some y=>y.k=x.k/\y.z=x.z/\y.es.length=x.es.length/\∀i,(y.es.getD i []).length=(x.es.getD i []).length/\(y.es.getD i []).take lo=(x.es.getD i []).take lo
 |none,none=>True
 |_,_=>False
def wW(o:BI)(lo:Nat)(B cU:List ae):Prop:=∀h,(o≠some h->cU[h]? =B[h]?)/\(o=some h->Ou lo B[h]? cU[h]?)
def sJ(lo:Nat)(R:List (Nat×J)):aT->Prop
 | .load none x=>match x.ev R with| .ptr _ _ _ j=>j<lo|_=>True
 | .load (some n) x=>match x.ev R with| .ptr _ _ _ j=>j+n<=lo|_=>True
 | .re _| .q0 _ _| .len _| .ra _ _ _| .mo _ _ _ _=>True
 |_=>False
def YV:J->J->Prop
 | .ptr h _ _ _,.ptr h' _ _ _=>h≠h'
 | .ptr h _ _ _,.own h' _ _ _=>h≠h'
 | .own h _ _ _,.ptr h' _ _ _=>h≠h'
 | .own h _ _ _,.own h' _ _ _=>h≠h'
 | .agg [.ptr h _ _ _],.ptr h' _ _ _=>h≠h'
 | .agg [.ptr h _ _ _],.own h' _ _ _=>h≠h'
 | .ptr h _ _ _,.agg [.ptr h' _ _ _]=>h≠h'
 | .own h _ _ _,.agg [.ptr h' _ _ _]=>h≠h'
 | .agg [.ptr h _ _ _],.agg [.ptr h' _ _ _]=>h≠h'
 | .mp h,.mp h'=>h≠h'
 | .mp h,.ptr h' _ _ _=>h≠h'
 | .mp h,.own h' _ _ _=>h≠h'
 | .mp h,.agg [.ptr h' _ _ _]=>h≠h'
 | .ptr h _ _ _,.mp h'=>h≠h'
 | .own h _ _ _,.mp h'=>h≠h'
 | .agg [.ptr h _ _ _],.mp h'=>h≠h'
 |_,_=>True
def Fg:List (Nat×Nat)->List (Nat×J)->Prop
 |[],_=>True
 |(a,b)::r,R=>YV (get a R) (get b R)/\Fg r R
def R0(z:Nat)(B:List ae)(d:J):Prop:=
 match vw d with
 |some h=>match B[h]? with
  |some o=>o.k≠ .dead/\o.z≠z
  |none=>False
 |none=>True
def O7(z:Nat)(s:DS):aT->Prop
 | .load _ (.t n)| .q0 _ (.t n)| .re (.t n)| .len (.t n)=>R0 z s.B (get n s.R)
 | .ra _ (.t n) _| .mo _ _ (.t n) _=>R0 z s.B (get n s.R)
 |_=>False
open Classical in
noncomputable def aB(C:dJ)(op:aT)(s:DS):o9:=
 match op with
 | .im d=>⟨d.kind=1/\(au C d ⟨s.R,[]⟩).pre,(au C d ⟨s.R,[]⟩).val,s.B⟩
 | .rk lo d=>⟨(au C d s).pre/\sJ lo s.R d/\(au C d s).B=s.B,(au C d s).val,s.B⟩
 | .tk b lo d=>⟨(au C d s).pre/\wW (vw (get b s.R)) lo s.B (au C d s).B,(au C d s).val,(au C d s).B⟩
 | .fz d=>⟨(au C d s).pre/\(iD (au C d s).B (au C d s).val).pre,(iD (au C d s).B (au C d s).val).val,(iD (au C d s).B (au C d s).val).B⟩
 | .rd d=>⟨(au C d s).pre/\(au C d s).B=s.B,(au C d s).val,s.B⟩
 | .rz z d=>⟨(au C d s).pre/\O7 z s d,(au C d s).val,s.B⟩
 | .to b d=>⟨(au C d s).pre/\RB (vw (get b s.R)) s.B (au C d s).B,(au C d s).val,(au C d s).B⟩
 | .ei f args=>if(au C (.Fj f args) s).pre then au C (.Fj f args) s else au C (.rY f args) s
 |d=>au C d s
def DS.put(s:DS)(dst:BI)(r:o9):DS:=
 match dst with
 |some d=>⟨(d,r.val)::s.R,r.B⟩
 |none=>⟨s.R,r.B⟩
def rh(C:dJ)(o:af)(s:DS)(K:DS->Prop):Prop:=
 match o.guard with
 |none=>(aB C o.op s).pre/\K (s.put o.dst (aB C o.op s))
 |some (g,b)=>
  match get g s.R with
  | .bool b'=>if b'=b then(aB C o.op s).pre/\K (s.put o.dst (aB C o.op s))else K (s.put o.dst ⟨True,.b9 [],s.B⟩)
  | .b9 []=>K (s.put o.dst ⟨True,.b9 [],s.B⟩)
  |_=>False
def mJ(C:dJ):List af->DS->(DS->Prop)->Prop
 |[],s,K=>K s
 |o::r,s,K=>rh C o s (λs'=>mJ C r s' K)
inductive aq where
 |skip
 |ops (draw:Bool) (l:List af)
 |Pu (hZ:List (Nat×Nat)) (l:List (Nat×af))
 |Km (l:List (Nat×af))
 |seq (a b:aq)
 |cond (c:DA) (a b:aq)
 |block (id:Nat) (c:aq)
 |loop (live:List Nat) (m:BI) (c:aq)
 |CK (t off z:Nat) (c:aq)
 |scope (c:aq)
 |sH (live:List Nat) (m:BI) (g:DA) (ps:List Nat) (K7 c:aq)
 |JC (c:aq)
 |bad
 |cut (live:List Nat) (m:BI) (c:aq)
 |exit (id:Nat)
 |ret
inductive cA where
 |normal
 |exit (id:Nat)
 |ret
mutual
def J.qA(m:Nat):J->Bool
 | .own h _ _ _=>h<m
 | .ptr h _ _ _=>h<m
 | .mp h=>h<m
 | .agg cs=>J.MB m cs
 | .b9 cs=>J.MB m cs
 | .Bg _ cs=>J.MB m cs
 | .BD _ cs=>J.MB m cs
 |_=>true
def J.MB(m:Nat):Ab->Bool
 |[]=>true
 |d::r=>d.qA m&&J.MB m r
end
def J.cut(m:Nat)(d:J):J:=if d.qA m then d else .undef
def ae.cut(m:Nat)(o:ae):ae:=
 if o.k= .loc then{o with es:=o.es.map λr=>r.map (J.cut m)}else o
def DS.cut(s:DS)(live:List Nat):BI->DS
 |some m=>⟨live.map λt=>(t,(get t s.R).cut m),(s.B.take m).map (ae.cut m)⟩
 |none=>⟨live.map λt=>(t,get t s.R),s.B⟩
def cA.then(next:DS->Prop)(Q:cA->DS->Prop):cA->DS->Prop
 | .normal,s=>next s
 |e,s=>Q e s
def cA.inBlock(id:Nat)(Q:cA->DS->Prop):cA->DS->Prop
 | .exit GP,s=>if GP=id then Q .normal s else Q (.exit GP) s
 |e,s=>Q e s
def cA.only(next:DS->Prop):cA->DS->Prop
 | .normal,s=>next s
 |_,_=>False
def ic(B:List ae):Ab->Prop×Ab×List ae
 |[]=>(True,[],B)
 | .ptr h L i j::r=>
   match B[h]? with
   |some o=>(o.k= .loc/\o.es.length=1/\L=1/\i=0/\j=0/\(∀d∈o.es.getD 0 [],d.bl=true)/\r.all J.bl=true,.agg (o.es.getD 0 [])::r,B.set h {o with k:= .dead})
   |none=>(False,[],B)
 |d::r=>(d.bl=true/\(ic B r).1,d::(ic B r).2.1,(ic B r).2.2)
theorem amN(B:List ae):∀(Bb:Ab),Bb.all J.bl=true->ic B Bb=(True,Bb,B)
 |[],_=>rfl
 |d::r,h=>by simp only[MM,ab]at h;have ih:=amN B r h.2;cases d<;>first|(simp[J.bl]at h;done)|simp[ic,ih,J.bl]
def kv:Ab->Ab×List ae
 |[]=>([],[])
 | .agg row::r=>(.ptr 0 1 0 0::r,[⟨.loc,row.length,[row]⟩])
 |d::r=>(d::(kv r).1,(kv r).2)
theorem MX:∀(Bb:Ab),Bb.all J.bl=true->kv Bb=(Bb,[])
 |[],_=>rfl
 |d::r,h=>by simp only[MM,ab]at h;have ih:=MX r h.2;cases d<;>first|(simp[J.bl]at h;done)|simp[kv,ih]
theorem anB:∀(Bb:Ab),(kv Bb).1.length=Bb.length
 |[]=>rfl
 |d::r=>by cases d<;>simp[kv,anB r]
def gP(C:dJ)(h0:Nat):aq->(cA->DS->Prop)->DS->Prop
 | .skip,Q,s=>Q .normal s
 | .ops _ l,Q,s=>mJ C l s (Q .normal)
 | .Pu hZ l,Q,s=>Fg hZ s.R/\mJ C (l.map (·.2)) s (Q .normal)
 | .Km l,Q,s=>mJ C (l.map (·.2)) s (Q .normal)
 | .seq a b,Q,s=>gP C h0 a (cA.then (gP C h0 b Q) Q) s
 | .cond c a b,Q,s=>
   match c.ev s.R with
   | .bool t=>(t=true->gP C h0 a Q s)/\(t=false->gP C h0 b Q s)
   | .Hy=>gP C h0 a Q s/\gP C h0 b Q s
   |_=>False
 | .block id c,Q,s=>gP C h0 c (cA.inBlock id Q) s
 | .loop live m c,Q,s=>(match m with|some k=>h0<=k|none=>True)/\∃(Bo:DS->Prop) (μ:DS->Nat),Bo (s.cut live m)/\
  ∀s',Bo s'->gP C h0 c (cA.then (λWB=>Bo (WB.cut live m)/\μ (WB.cut live m)<μ s') Q) s'
 | .CK t off z c,Q,s=>match get t s.R with
   | .ptr h L i j=>match s.B[h]? with
     |some o=>((o.k= .loc/\o.es.length=L/\i<L/\(o.es.getD i [])[j+off]? =some .nil)/\
      gP C h0 c Q ⟨s.R,s.B.set h {o with es:=o.es.set i ((o.es.getD i []).set (j+off) (.own s.B.length 0 0 0))}++[⟨.aV,z,[]⟩]⟩)\/gP C h0 c Q s
     |none=>False
   |_=>False
 | .scope c,Q,s=>gP C h0 c Q s
 | .sH live m g ps K7 c,Q,s=>(match m with|some k=>h0<=k|none=>True)/\
  match g.ev s.R with
  | .Bg f Bb=>(C.i f (ic (s.cut live m).B Bb).2.1).1/\(ic (s.cut live m).B Bb).1/\∃Bo:Nat->List ae->Prop,Bo 0 (ic (s.cut live m).B Bb).2.2/\
   (∀k x B,Bo k B->(C.i f (ic (s.cut live m).B Bb).2.1).2[k]? =some x->x.length=ps.length/\
    gP C B.length K7 (cA.only λs1=>gP C s1.B.length c (cA.then (λs'=>Bo (k+1) (s'.cut [] m).B) (λe s'=>Q e ⟨(s.cut live m).R,s'.B⟩)) s1) ⟨ps.zip x++(s.cut live m).R,B⟩)/\
   ∀B,Bo (C.i f (ic (s.cut live m).B Bb).2.1).2.length B->Q .normal ⟨(s.cut live m).R,B⟩
  |_=>False
 | .JC c,Q,s=>gP C h0 c Q ⟨s.R,s.B++[⟨.dead,0,[]⟩]⟩
 | .bad,_,_=>False
 | .cut live m c,Q,s=>(match m with|some k=>h0<=k|none=>True)/\gP C h0 c Q (s.cut live m)
 | .exit id,Q,s=>Q (.exit id) s
 | .ret,Q,s=>Q .ret s
end
end Go.Nk
set_option linter.all false
namespace Go.Nk
open Go.RowKit
structure Env where
 X:(Nat->Prop)->World->Prop
 mono:∀(F F':Nat->Prop) (w w':World),X F w->(∀b,F b->w'.heap[b]? =w.heap[b]?)->(∀b,F b->F' b)->X F' w'
def Env.none:Env:=⟨λ_ _=>True,λ_ _ _ _ _ _ _=>trivial⟩
def Env.nH(P:Program)(name:String)(k:IntKind)(aDr:Ba):Env where
 X F w:=∃g c,P.globalNamed name=some g/\F g/\w.heap[g]? =some c/\match c with| .cells cs _ _=>cs=(aDr.map λz=>Value.int k z).toArray|_=>False
 mono:=λ_ _ _ _ ⟨g,c,h1,h2,h3,h4⟩ hk hm=>⟨g,c,h1,hm g h2,(hk g h2).trans h3,h4⟩
def XF [Inhabited Env](F:Nat->Prop)(w:World):Prop:=(default:Env).X F w
theorem XF.mono [Inhabited Env]{F F':Nat->Prop}{w w':World}(h:XF F w)(h1:∀b,F b->w'.heap[b]? =w.heap[b]?)(h2:∀b,F b->F' b):XF F' w':=(default:Env).mono _ _ _ _ h h1 h2
def WY(w:World)(g:Nat):Nat:=match w.heap[g]? with|some (.cells c _ _)=>c.size|_=>0
inductive cB(F:Nat->Prop)(w:World):J->Value->Prop
 |int (k n):cB F w (.int k n) (.int k n)
 |bool (b):cB F w (.bool b) (.bool b)
 |str (s):cB F w (.str s) (.string ⟨s.toArray⟩)
 |nil:cB F w .nil (.slice none 0 0)
 |rf:cB F w .rf (.pointer none)
 |sl (es:List Ab) (A:Option Addr) (n c:Nat) (a:Addr) (z:Nat) (cv:Nat->Nat->Value)
  (hn:n=es.length) (l7:n<=c) (hA:es≠[]->A=some a/\a.spot=none/\F a.block) (hz:∀(i:Nat) (e:Ab),es[i]? =some e->e.length=z)
  (hc:∀i j d,cellAt es i j=some d->w.cell? ⟨a.block,a.off+(i*z+j),none⟩=some (cv i j)/\d.one=true)
  (E:∀i j d,cellAt es i j=some d->cB F w d (cv i j)):cB F w (.sl es) (.slice A n c)
 |ref (cs:Ab) (a:Addr) (cv:Nat->Value) (I:a.spot=none) (hF:F a.block)
  (hc:∀j d,cs[j]? =some d->w.cell? ⟨a.block,a.off+j,none⟩=some (cv j)/\d.one=true)
  (E:∀(j:Nat) (d:J),cs[j]? =some d->cB F w d (cv j)):cB F w (.ref cs) (.pointer (some a))
 |Bg (f) (cs:Ab) (vs:Array Value) (hl:cs.length=vs.size) (vv:Nat->Value) (hv:∀(j:Nat) (d:J),cs[j]? =some d->vs[j]? =some (vv j)) (E:∀(j:Nat) (d:J),cs[j]? =some d->cB F w d (vv j)):cB F w (.Bg f cs) (.func (.func f) #[] vs)
 |Hy (b):cB F w .Hy (.bool b)
 |P9 (l):cB F w (.P9 l) (.func (.yield l) #[] #[])
 |Oq (t d v) (h:cB F w d v):cB F w (.Oq t d) (.iface t v)
def aB7(σ:Nat->BI)(w:World)(z h off len:Nat)(v:Value):Prop:=
 ∃A cap,v= .slice A len cap/\len<=cap/\(cap=0\/∃g,σ h=some g/\A=some ⟨g,off*z,none⟩/\(off+cap)*z<=WY w g)
inductive aC(F:Nat->Prop)(σ:Nat->BI)(B:List ae)(w:World):J->Value->Prop
 |undef (v):aC F σ B w .undef v
 |aV {d v} (h:cB F w d v):aC F σ B w d v
 |own (h L off len v) (h1:v.oneCell'=true) (hh:h<B.length)
  (ho:∀o,B[h]? =some o->L<=o.es.length/\(o.k≠ .dead->o.es.length=L->aB7 σ w o.z h off len v)):aC F σ B w (.own h L off len) v
 |ptr (h L i j v) (h1:v.oneCell'=true) (hh:h<B.length)
  (ho:∀o,B[h]? =some o->L<=o.es.length/\(o.k≠ .dead->o.es.length=L->∃g,σ h=some g/\v= .pointer (some ⟨g,i*o.z+j,none⟩))):aC F σ B w (.ptr h L i j) v
 |mp (h v) (h1:v.oneCell'=true) (hh:h<B.length)
  (ho:∀o,B[h]? =some o->o.k≠ .dead->o.es.length=0->∃g,σ h=some g/\v= .map (some g)):aC F σ B w (.mp h) v
 |agg (cs:Ab) (vs:Array Value) (hl:cs.length=vs.size) (vv:Nat->Value) (hv:∀(j:Nat) (d:J),cs[j]? =some d->vs[j]? =some (vv j)) (E:∀(j:Nat) (d:J),cs[j]? =some d->aC F σ B w d (vv j)):aC F σ B w (.agg cs) (.agg vs)
 |b9 (cs:Ab) (vs:Array Value) (hl:cs.length=vs.size) (vv:Nat->Value) (hv:∀(j:Nat) (d:J),cs[j]? =some d->vs[j]? =some (vv j)) (E:∀(j:Nat) (d:J),cs[j]? =some d->aC F σ B w d (vv j)):aC F σ B w (.b9 cs) (.tuple vs)
 |Bg (f) (cs:Ab) (vs:Array Value) (hl:cs.length=vs.size) (vv:Nat->Value) (hv:∀(j:Nat) (d:J),cs[j]? =some d->vs[j]? =some (vv j)) (E:∀(j:Nat) (d:J),cs[j]? =some d->aC F σ B w d (vv j)):aC F σ B w (.Bg f cs) (.func (.func f) #[] vs)
 |BD (f) (cs:Ab) (vs:Array Value) (hl:cs.length=vs.size) (vv:Nat->Value) (hv:∀(j:Nat) (d:J),cs[j]? =some d->vs[j]? =some (vv j)) (E:∀(j:Nat) (d:J),cs[j]? =some d->aC F σ B w d (vv j)):aC F σ B w (.BD f cs) (.func (.func f) vs #[])
def GQ(w:World)(g z:Nat)(es:List Ab)(An:J->Value->Prop):Prop:=
 ∃c ty,w.heap[g]? =some (.cells c ty (0,0))/\es.length*z<=c.size/\(∀(i:Nat) (e:Ab),es[i]? =some e->e.length=z)/\
  ∀i j d,cellAt es i j=some d->∃v,c[i*z+j]? =some v/\An d v
def VI(w:World)(g:Nat)(es:List (B3×J))(An:J->Value->Prop):Prop:=
 ∃(c:Array MapEntry) (n:Nat),w.heap[g]? =some (.map c n)/\c.size=es.length/\
  ∀(i:Nat) (x:B3×J),es[i]? =some x->∃e,c[i]? =some e/\e.key= .string ⟨x.1.toArray⟩/\An x.2 e.val
def gv(K F:Nat->Prop)(σ:Nat->BI)(B:List ae)(w:World)(h:Nat)(o:ae):Prop:=
 match o.k with
 | .dead=>True
 | .aV=>(o.es=[]/\σ h=none)\/∃g,σ h=some g/\¬F g/\¬K g/\GQ w g o.z o.es (λd v=>cB F w d v/\d.one=true)
 | .A6=>(o.es=[]/\σ h=none)\/∃g,σ h=some g/\F g/\GQ w g o.z o.es (λd v=>cB F w d v/\d.one=true)
 | .loc=>∃g,σ h=some g/\¬F g/\¬K g/\GQ w g o.z o.es (λd v=>aC F σ B w d v)
 | .mp es=>(o.es=[]/\o.z=0)/\∃g,σ h=some g/\¬F g/\¬K g/\VI w g es (λd v=>cB F w d v/\∃l,d= .sl l)
def Kd.mut(k:Kd):Prop:=k= .aV\/k= .loc\/∃es,k= .mp es
structure bH [Inhabited Env](K F:Nat->Prop)(σ:Nat->BI)(B:List ae)(w:World):Prop where
 obj:∀h o,B[h]? =some o->gv K F σ B w h o
 inj:∀h h' o o' g,B[h]? =some o->o.k.mut->B[h']? =some o'->o'.k.mut->σ h=some g->σ h'=some g->h=h'
 fb:∀b,F b->b<w.heap.size
 kb:∀b,K b->b<w.heap.size
 nH:XF F w
structure jd(K F:Nat->Prop)(w:World)(F':Nat->Prop)(w':World):Prop where
 os:w'.os=w.os
 tape:w'.tape=w.tape
 output:w'.output=w.output
 size:w.heap.size<=w'.heap.size
 sa:∀b,K b->w'.heap[b]? =w.heap[b]?
 ck:∀b,F b->w'.heap[b]? =w.heap[b]?
 mono:∀b,F b->F' b
 new:∀b,F' b->F b\/¬K b
theorem jd.refl(K F:Nat->Prop)(w:World):jd K F w F w:=
 ⟨rfl,rfl,rfl,By _,λ_ _=>rfl,λ_ _=>rfl,λ_ h=>h,λ_ h=> .inl h⟩
theorem jd.trans{K F F' Kg:Nat->Prop}{w w' Kh:World}(h:jd K F w F' w')(k:jd K F' w' Kg Kh):jd K F w Kg Kh:=
 ⟨k.os.trans h.os,k.tape.trans h.tape,k.output.trans h.output,D0 h.size k.size,λb hb=>(k.sa b hb).trans (h.sa b hb),
  λb hb=>(k.ck b (h.mono b hb)).trans (h.ck b hb),λb hb=>k.mono b (h.mono b hb),λb hb=>(k.new b hb).elim (h.new b) .inr⟩
structure HM(F:Nat->Prop)(σ:Nat->BI)(B:List ae)(w:World)(F':Nat->Prop)(Be:Nat->BI)(cU:List ae)(w':World):Prop where
 mono:∀b,F b->F' b
 ck:∀b,F b->w'.heap[b]? =w.heap[b]?
 len:B.length<=cU.length
 ob:∀h o,B[h]? =some o->∃o',cU[h]? =some o'/\o.es.length<=o'.es.length/\
  (o'.k≠ .dead->o'.es.length=o.es.length->o.k≠ .dead/\o'.z=o.z/\Be h=σ h/\∀g,σ h=some g->WY w' g=WY w g)
theorem HM.refl(F:Nat->Prop)(σ:Nat->BI)(B:List ae)(w:World):HM F σ B w F σ B w:=
 ⟨λ_ h=>h,λ_ _=>rfl,By _,λ_ o ho=>⟨o,ho,By _,λh _=>⟨h,rfl,rfl,λ_ _=>rfl⟩⟩⟩
theorem HM.trans{F F' Kg:Nat->Prop}{σ Be anW:Nat->BI}{B cU XT:List ae}{w w' Kh:World}
 (h:HM F σ B w F' Be cU w') (k:HM F' Be cU w' Kg anW XT Kh):HM F σ B w Kg anW XT Kh:=by
 refine⟨λb hb=>k.mono b (h.mono b hb),λb hb=>(k.ck b (h.mono b hb)).trans (h.ck b hb),D0 h.len k.len,λi o ho=>?_⟩;obtain⟨o',jP,hl,hk⟩:=h.ob i o ho;obtain⟨XV,aFL,Me,Ih⟩:=k.ob i o' jP;refine⟨XV,aFL,D0 hl Me,λZ he=>?_⟩;obtain⟨a1,a2,a3,a4⟩:=Ih Z (by omega);obtain⟨b1,b2,b3,b4⟩:=hk a1 (by omega);exact⟨b1,a2.trans b2,a3.trans b3,λg hg=>(a4 g (b3.trans hg)).trans (b4 g hg)⟩
theorem cell_of_heap{w w':World}{a:Addr}(h:w'.heap[a.block]? =w.heap[a.block]?):w'.cell? a=w.cell? a:=World.cell?_of_block h
theorem cB.mono{F F':Nat->Prop}{w w':World}(hF:∀b,F b->F' b)(hw:∀b,F b->w'.heap[b]? =w.heap[b]?){d:J}{v:Value}(h:cB F w d v):cB F' w' d v:=by
 induction h with
 |int k n=>exact .int k n
 |bool b=>exact .bool b
 |str s=>exact .str s
 |nil=>exact .nil
 |rf=>exact .rf
 |Bg f cs vs hl vv hv E ih=>exact .Bg f cs vs hl vv hv ih
 |Hy b=>exact .Hy b
 |P9 l=>exact .P9 l
 |Oq t d v h ih=>exact .Oq t d v ih
 |sl es A n c a z cv hn l7 hA hz hc E ih=>
  refine .sl es A n c a z cv hn l7 (λh=>⟨(hA h).1,(hA h).2.1,hF _ (hA h).2.2⟩) hz (λi j d Z=>?_) ih;grind[cell_of_heap,cellAt]
 |ref cs a cv I hFa hc E ih=>
  exact .ref cs a cv I (hF _ hFa) (λj d Z=>⟨(cell_of_heap (w:=w) (a:=⟨a.block,a.off+j,none⟩) (hw _ hFa)).trans (hc j d Z).1,(hc j d Z).2⟩) ih
theorem aC.mono{F F':Nat->Prop}{σ Be:Nat->BI}{B cU:List ae}{w w':World}(hm:HM F σ B w F' Be cU w'){d:J}{v:Value}
 (h:aC F σ B w d v):aC F' Be cU w' d v:=by
 induction h with
 |undef v=>exact .undef v
 |aV h=>exact .aV (h.mono hm.mono hm.ck)
 |own h L off len v Fc hh ho=>
  refine .own h L off len v Fc (Ef hh hm.len) (λo' jP=>?_);obtain⟨o,Ff⟩:∃o,B[h]? =some o:=⟨B[h],by simp[hh]⟩;obtain⟨XV,h1,hl,hk⟩:=hm.ob h o Ff;rw[jP]at h1;injection h1 with h1;subst h1;obtain⟨hL,hv⟩:=ho o Ff;refine⟨by omega,λZ he=>?_⟩;obtain⟨a1,a2,a3,a4⟩:=hk Z (by omega);obtain⟨A,cap,Y,e2,e3⟩:=hv a1 (by omega);refine⟨A,cap,Y,e2,e3.imp id λ⟨g,g1,g2,g3⟩=>⟨g,a3.trans g1,by simp_all,by simp_all⟩⟩
 |ptr h L i j v Fc hh ho=>
  refine .ptr h L i j v Fc (Ef hh hm.len) (λo' jP=>?_);obtain⟨o,Ff⟩:∃o,B[h]? =some o:=⟨B[h],by simp[hh]⟩;obtain⟨XV,h1,hl,hk⟩:=hm.ob h o Ff;grind
 |mp h v Fc hh ho=>
  refine .mp h v Fc (Ef hh hm.len) (λo' jP Z he=>?_);obtain⟨o,Ff⟩:∃o,B[h]? =some o:=⟨B[h],by simp[hh]⟩;obtain⟨XV,h1,hl,hk⟩:=hm.ob h o Ff;simp_all
 |agg cs vs hl vv hv E ih=>exact .agg cs vs hl vv hv ih
 |b9 cs vs hl vv hv E ih=>exact .b9 cs vs hl vv hv ih
 |Bg f cs vs hl vv hv E ih=>exact .Bg f cs vs hl vv hv ih
 |BD f cs vs hl vv hv E ih=>exact .BD f cs vs hl vv hv ih
section
variable {F:Nat->Prop} {σ:Nat->BI} {B:List ae} {w:World} {v:Value}
theorem aC.gE{k:IntKind}{n:Int}(h:aC F σ B w (.int k n) v):v= .int k n:=by cases h with|aV h=>cases h;rfl
theorem aC.jF{b:Bool}(h:aC F σ B w (.bool b) v):v= .bool b:=by cases h with|aV h=>cases h;rfl
theorem aC.acM(h:aC F σ B w .Hy v):∃b,v= .bool b:=by cases h with|aV h=>cases h;simp_all
theorem aC.aiD{l:Nat}(h:aC F σ B w (.P9 l) v):v= .func (.yield l) #[] #[]:=by cases h with|aV h=>cases h;rfl
theorem aC.o8{s:B3}(h:aC F σ B w (.str s) v):v= .string ⟨s.toArray⟩:=by cases h with|aV h=>cases h;rfl
theorem aC.lM(h:aC F σ B w .nil v):v= .slice none 0 0:=by cases h with|aV h=>cases h;rfl
theorem aC.zG(h:aC F σ B w .rf v):v= .pointer none:=by cases h with|aV h=>cases h;rfl
theorem aC.ud{es:List Ab}(h:aC F σ B w (.sl es) v):cB F w (.sl es) v:=by cases h with|aV h=>exact h
theorem aC.kC{cs:Ab}(h:aC F σ B w (.ref cs) v):cB F w (.ref cs) v:=by cases h with|aV h=>exact h
theorem aC.sX{h' L off len:Nat}(h:aC F σ B w (.own h' L off len) v):
 h'<B.length/\∀o,B[h']? =some o->L<=o.es.length/\(o.k≠ .dead->o.es.length=L->aB7 σ w o.z h' off len v):=by
 cases h with
 |aV h=>cases h
 |own _ _ _ _ _ _ hh ho=>simp_all
theorem aC.DE{h' L i j:Nat}(h:aC F σ B w (.ptr h' L i j) v):
 h'<B.length/\∀o,B[h']? =some o->L<=o.es.length/\(o.k≠ .dead->o.es.length=L->∃g,σ h'=some g/\v= .pointer (some ⟨g,i*o.z+j,none⟩)):=by
 cases h with
 |aV h=>cases h
 |ptr _ _ _ _ _ _ hh ho=>simp_all
theorem aC.ayf{h':Nat}(h:aC F σ B w (.mp h') v):
 h'<B.length/\∀o,B[h']? =some o->o.k≠ .dead->o.es.length=0->∃g,σ h'=some g/\v= .map (some g):=by
 cases h with
 |aV h=>cases h
 |mp _ _ _ hh ho=>simp_all
theorem aC.rm{cs:Ab}(h:aC F σ B w (.agg cs) v):∃vs:Array Value,v= .agg vs/\cs.length=vs.size/\∀(j:Nat) (d:J),cs[j]? =some d->∃u,vs[j]? =some u/\aC F σ B w d u:=by
 cases h with
 |aV h=>cases h
 |agg _ vs hl vv hv E=>simp_all
theorem aC.Kx{cs:Ab}(h:aC F σ B w (.b9 cs) v):∃vs:Array Value,v= .tuple vs/\cs.length=vs.size/\∀(j:Nat) (d:J),cs[j]? =some d->∃u,vs[j]? =some u/\aC F σ B w d u:=by
 cases h with
 |aV h=>cases h
 |b9 _ vs hl vv hv E=>simp_all
theorem aC.DF{f:FuncId}{cs:Ab}(h:aC F σ B w (.Bg f cs) v):∃vs:Array Value,v= .func (.func f) #[] vs/\cs.length=vs.size/\∀(j:Nat) (d:J),cs[j]? =some d->∃u,vs[j]? =some u/\aC F σ B w d u:=by
 cases h with
 |aV h=>
  cases h with
  |Bg _ _ vs hl vv hv E=>exact⟨vs,rfl,hl,λj d Z=>⟨vv j,hv j d Z,.aV (E j d Z)⟩⟩
 |Bg _ _ vs hl vv hv E=>simp_all
theorem aC.Tl{f:FuncId}{cs:Ab}(h:aC F σ B w (.BD f cs) v):∃vs:Array Value,v= .func (.func f) vs #[]/\cs.length=vs.size/\∀(j:Nat) (d:J),cs[j]? =some d->∃u,vs[j]? =some u/\aC F σ B w d u:=by
 cases h with
 |aV h=>cases h
 |BD _ _ vs hl vv hv E=>simp_all
theorem XW{An:J->Value->Prop}{cs:Ab}{vs:Array Value}(h:∀(j:Nat) (d:J),cs[j]? =some d->∃u,vs[j]? =some u/\An d u):
 ∃vv:Nat->Value,(∀(j:Nat) (d:J),cs[j]? =some d->vs[j]? =some (vv j))/\∀(j:Nat) (d:J),cs[j]? =some d->An d (vv j):=by
 refine⟨λj=>(vs[j]?).getD (.tuple #[]),λj d Z=>?_,λj d Z=>?_⟩;all_goals grind
theorem aC.wc{cs:Ab}{vs:Array Value}(hl:cs.length=vs.size)(h:∀(j:Nat) (d:J),cs[j]? =some d->∃u,vs[j]? =some u/\aC F σ B w d u):aC F σ B w (.agg cs) (.agg vs):=by obtain⟨vv,h1,h2⟩:=XW h;exact .agg cs vs hl vv h1 h2
theorem aC.Zl{cs:Ab}{vs:Array Value}(hl:cs.length=vs.size)(h:∀(j:Nat) (d:J),cs[j]? =some d->∃u,vs[j]? =some u/\aC F σ B w d u):aC F σ B w (.b9 cs) (.tuple vs):=by obtain⟨vv,h1,h2⟩:=XW h;exact .b9 cs vs hl vv h1 h2
theorem aC.ayi{f:FuncId}{cs:Ab}{vs:Array Value}(hl:cs.length=vs.size)(h:∀(j:Nat) (d:J),cs[j]? =some d->∃u,vs[j]? =some u/\aC F σ B w d u):aC F σ B w (.Bg f cs) (.func (.func f) #[] vs):=by obtain⟨vv,h1,h2⟩:=XW h;exact .Bg f cs vs hl vv h1 h2
theorem cB.aFM(f:FuncId):cB F w (.Bg f []) (.func (.func f) #[] #[]):= .Bg f [] #[] rfl (λ_=> .nilFunc) (λj d Z=>by simp at Z) (λj d Z=>by simp at Z)
theorem cB.xH{d:J}(h:cB F w d v):v.oneCell'=true:=by cases h<;>rfl
theorem aC.xH{d:J}(h:aC F σ B w d v)(Z:d.one=true):v.oneCell'=true:=by
 cases h with
 |undef=>simp[J.one]at Z
 |aV h=>exact h.xH
 |own h' L off len _ h1=>exact h1
 |ptr h' L i j _ h1=>exact h1
 |mp h' _ h1=>exact h1
 |agg=>simp[J.one]at Z
 |b9=>simp[J.one]at Z
 |Bg=>rfl
 |BD=>rfl
end
end Go.Nk
set_option linter.all false
namespace Go.Nk
open Go.RowKit
def KJ:Value->J->Bool
 | .int k n,.int k' n'=>decide (k=k')&&decide (n=n')
 | .bool a,.bool b=>a==b
 | .string s,.str l=>s.data.toList==l
 | .slice none 0 0,.nil=>true
 | .slice none 0 0,.sl []=>true
 | .pointer none,.rf=>true
 |_,_=>false
def ry:List Value->Ab->Bool
 |[],[]=>true
 |v::vs,d::ds=>KJ v d&&ry vs ds
 |_,_=>false
def sY:List Value->Ab->Bool
 |[],[]=>true
 |v::vs,d::ds=>(match d with| .undef=>true|d=>KJ v d)&&sY vs ds
 |_,_=>false
def wZ:Value->J->Bool
 | .agg vs,.agg ds=>ry vs.toList ds
 | .tuple vs,.b9 ds=>ry vs.toList ds
 |_,.undef=>true
 |v,d=>KJ v d
def cK:Operand->DA->Bool
 | .tmp t,.t n=>t==n
 | .const v,.c d=>wZ v d
 | .func f,.c (.Bg g [])=>f==g
 |_,.c .undef=>true
 |_,_=>false
def fY:List Operand->List DA->Bool
 |[],[]=>true
 |x::xs,d::ds=>cK x d&&fY xs ds
 |_,_=>false
def Na:Option Operand->Option DA->Bool
 |none,none=>true
 |some x,some d=>cK x d
 |_,_=>false
def isInt(k:IntKind):Option TypeDesc->Bool
 |some (.int k')=>decide (k=k')
 |_=>false
def isStr:Option TypeDesc->Bool
 |some .string=>true
 |_=>false
theorem adi{k:IntKind}{d:Option TypeDesc}(h:isInt k d=true):d=some (.int k):=by unfold isInt at h;grind
theorem KE{d:Option TypeDesc}(h:isStr d=true):d=some .string:=by grind[isStr]
def Tg(P:Program)(t:TypeId):Option BI:=
 match P.underlying t,P.info? t with
 |some (.struct _),some i=>some (some i.size)
 |some (.array _ _),some i=>some (some i.size)
 |some _,some _=>some none
 |_,_=>none
def HK(P:Program)(e:TypeId)(zero:Ab):Bool:=
 match P.info? e with
 |some i=>match i.zero with
  |some z=>ry z.cells.toList zero&&i.size==zero.length&&decide (0<i.size)&&decide (i.bytes<=32768)&&decide (qW zero*i.bytes<=281474976710656)
  |none=>false
 |none=>false
def HL(P:Program)(t:TypeId)(z:Nat):Option TypeId:=
 match P.underlying t with
 |some (.slice e)=>match P.info? e with
  |some i=>match i.zero with
   |some zv=>if i.size=z/\0<z/\i.bytes<=32768/\zv.cells.size=z then some e else none
   |none=>none
  |none=>none
 |_=>none
def AQ:Nat->List (Nat×Operand)->List (Option DA)->Bool
 |_,[],[]=>true
 |i,ps,none::r=>AQ (i+1) ps r
 |i,(j,x)::ps,some y::r=>j==i&&cK x y&&AQ (i+1) ps r
 |_,_,_=>false
def HI(place:Nat->Option (Nat×Nat)):List (Nat×Operand)->List (Nat×Nat×DA)->Bool
 |[],[]=>true
 |(i,x)::ps,(off,n,y)::r=>decide (place i=some (off,n))&&cK x y&&HI place ps r
 |_,_=>false
def KK(P:Program)(t:TypeId)(k:Nat):Bool:=
 match P.underlying t with
 |some (.int _)=>k==0
 |some .bool=>k==1
 |some .string=>k==2
 |_=>false
def nD(P:Program)(nest:TypeId->List Nat->Bool):Nat->List Field->List Nat->Bool
 |_,[],ks=>ks.isEmpty
 |k,f::r,ks=>
  f.offset == k && f.name != "_" &&
  (match Tg P f.type with
   |some none=>(match ks with|n::ns=>KK P f.type n&&nD P nest (k+1) r ns|[]=>false)
   |some (some n)=>decide (n<=ks.length)&&nest f.type (ks.take n)&&nD P nest (k+n) r (ks.drop n)
   |none=>false)
def av0(P:Program)(t:TypeId)(ks:List Nat):Bool:=
 match P.underlying t with
 |some (.struct fs)=>nD P (λ_ _=>false) 0 fs.toList ks&& !P.stoodInHeld t
 |_=>false
def HP(P:Program)(t:TypeId)(ks:List Nat):Bool:=
 match P.underlying t with
 |some (.struct fs)=>nD P (av0 P) 0 fs.toList ks&& !P.stoodInHeld t&& !P.eqGuardType P.depth t
 |_=>false
def isEq(neg:Bool)(op:BinOp):Bool:=if neg then decide (op= .neq)else decide (op= .eql)
inductive At where
 |load|store|add|cas
def Zm:At->IntKind->Option String
 | .load,.i64 => some "sync/atomic.LoadInt64"
 | .store,.i64 => some "sync/atomic.ayj"
 | .add,.i64 => some "sync/atomic.AddInt64"
 | .load,.u32 => some "sync/atomic.LoadUint32"
 | .store,.u32 => some "sync/atomic.av1"
 | .add,.i32 => some "sync/atomic.AddInt32"
 | .cas,.i32 => some "sync/atomic.CompareAndSwapInt32"
 |_,_=>none
def Ow(P:Program)(f:FuncId)(x:At)(k:IntKind):Bool:=
 match P.funcs[f]?,Zm x k with
 | some fn,some n => fn.name == n && fn.origin == "" && fn.body.isNone
 |_,_=>false
def Tj(P:Program)(t:TypeId):Bool:=
 match P.underlying t with
 |some (.map k e)=>isStr (P.underlying k)&&(match P.info? e with|some i=>(match i.zero with|some (.slice none 0 0)=>true|_=>false)|none=>false)
 |_=>false
def concrete(P:Program)(t:TypeId):Bool:=
 match P.underlying t with
 |some (.interface _)=>false
 |some _=>true
 |none=>false
def Up(P:Program)(o:Op)(d:aT):Bool:=
 match o,d with
 | .move x,.mv y| .assign x,.mv y=>cK x y
 | .move x,.S5 y| .assign x,.S5 y=>cK x y
 | .move x,.Ol _ y| .assign x,.Ol _ y=>cK x y
 | .call {callee:= .builtin .cap,args:=xs,argTypes:=ts},.S7 y=>fY xs.toList [y]&&(match ts.toList with
  |[t]=>match P.underlying t with|some (.slice _)=>true|_=>false
  |_=>false)
 | .pick c a b,.pick c' a' b'=>cK c c'&&cK a a'&&cK b b'
 | .binOp op _ x y _,.bin wj x' y'=>decide (op=wj)&&cK x x'&&cK y y'
 | .binOp op t x y _,.beq n x' y'=>isEq n op&&cK x x'&&cK y y'&&(match P.underlying t with|some .bool=>true|_=>false)
 | .binOp op t x y _,.Ot n x' y'=>isEq n op&&cK x x'&&cK y y'&&(match P.underlying t with|some (.pointer _)=>true|_=>false)
 | .binOp op t x y _,.XP n m x' y'=>isEq n op&&cK x x'&&cK y y'&&HP P t m
 | .binOp op t x (.const (.slice none 0 0)) _,.Pt n x'=>isEq n op&&cK x x'&&(match P.underlying t with|some (.slice _)=>true|_=>false)
 | .unOp op _ x,.un wj x'=>decide (op=wj)&&cK x x'
 | .convert s t x,.conv k y=>cK x y&&(P.underlying s).isSome&&isInt k (P.underlying t)
 | .convert s t x,.Md y=>cK x y&&isStr (P.underlying t)&&(match P.underlying s with
  |some (.slice e)=>isInt .u8 (P.underlying e)
  |_=>false)
 | .call {callee:= .builtin .len,args:=xs,argTypes:=ts},.len y=>fY xs.toList [y]&&(match ts.toList with
  |[t]=>match P.underlying t with|some (.slice _)=>true|_=>false
  |_=>false)
 | .call {callee:= .builtin .len,args:=xs,argTypes:=ts},.VD y=>fY xs.toList [y]&&(match ts.toList with
  |[t]=>isStr (P.underlying t)
  |_=>false)
 | .call {callee:= .builtin .len,args:=xs,argTypes:=ts},.mv (.c (.int .i64 n))=>xs.size==1&&(match ts.toList with
  |[t]=>match P.underlying t with
   |some (.array m _)=>decide (n=m)
   |some (.pointer a)=>match P.underlying a with|some (.array m _)=>decide (n=m)|_=>false
   |_=>false
  |_=>false)
 | .call {callee:= .builtin .max,args:=xs,argTypes:=_},.Hw true x y=>fY xs.toList [x,y]
 | .call {callee:= .builtin .min,args:=xs,argTypes:=_},.Hw false x y=>fY xs.toList [x,y]
 | .load t p,.load sz q=>cK p q&&decide (Tg P t=some sz)
 | .store t p v,.store n q u=>cK p q&&cK v u&&(match P.info? t with|some i=>i.size==n|none=>false)
 | .fieldAddr t p f,.q0 off q=>cK p q&&(match P.underlying t with
  |some (.struct fs)=>match fs[f]? with
   |some fl=>fl.offset==off&&(match P.info? fl.type with|some i=>i.size !=0|none=>false)
   |none=>false
  |_=>false)
 | .field t x f,.field off sz y=>cK x y&&(match P.underlying t with
  |some (.struct fs)=>match fs[f]? with
   |some fl=>fl.offset==off&&decide (Tg P fl.type=some sz)
   |none=>false
  |_=>false)
 | .indexAddr t x i,.ra z y k=>cK x y&&cK i k&&(HL P t z).isSome
 | .indexAddr t x i,.mo n z y k=>cK x y&&cK i k&&(match P.underlying t with
  |some (.array m e)=>m==n&&(match P.info? e with|some j=>j.size==z|none=>false)
  |_=>false)
 | .index t x i,.index y k=>cK x y&&cK i k&&isStr (P.underlying t)
 | .slice t x lo hi mx,.CM y l h=>cK x y&&Na lo l&&Na hi h&&mx.isNone&&isStr (P.underlying t)
 | .slice t x lo hi mx,.slice z y l h m=>cK x y&&Na lo l&&Na hi h&&Na mx m&&(HL P t z).isSome
 | .makeSlice t n c,.make zero n' c'=>cK n n'&&cK c c'&&(match P.underlying t with|some (.slice e)=>HK P e zero|_=>false)
 | .buildSlice t n ps,.v7 _ zero parts=>n==parts.length&&AQ 0 ps.toList parts&&decide (n*zero.length<=16777216)&&(match P.underlying t with|some (.slice e)=>HK P e zero|_=>false)
 | .build t ps,.build zero parts=>(match P.info? t with|some i=>(match i.zero with|some z=>sY z.cells.toList zero|none=>false)|none=>false)&&(match P.underlying t with
  |some (.struct fs)=>fs.toList.all (λf=>(P.info? f.type).isSome)&&HI (λi=>(fs[i]?).bind λf=>(P.info? f.type).map λj=>(f.offset,j.size)) ps.toList parts
  |some (.array _ e)=>match P.info? e with|some j=>HI (λi=>some (i*j.size,j.size)) ps.toList parts|none=>false
  |_=>false)
 | .alloc e,.alloc zero=>(match P.info? e with|some i=>(match i.zero with|some z=>sY z.cells.toList zero|none=>false)|none=>false)
 | .move x,.home _ y| .assign x,.home _ y=>cK x y
 | .call {callee:= .builtin .append,args:=xs,argTypes:=ts},.kn z zero s x=>fY xs.toList [s,x]&&(match ts.toList with
  |[t,u]=>(HL P t z).isSome&&(match P.underlying u with|some (.int _)=>true|_=>false)&&(match P.underlying t with|some (.slice e)=>HK P e zero|_=>false)
  |_=>false)
 | .alloc e,.aa _ zero=>(match P.info? e with|some i=>(match i.zero with|some z=>sY z.cells.toList zero|none=>false)|none=>false)
 | .box _ x,.box y=>cK x y
 | .box _ x,.XS y=>cK x y
 | .call {callee:= .builtin .append,args:=xs,argTypes:=ts},.append z s x=>fY xs.toList [s,x]&&(match ts.toList with
  |[t,u]=>(HL P t z).isSome&&(match P.underlying u with|some (.slice _)|some .string=>true|_=>false)
  |_=>false)
 | .call {callee:= .value (.func f),args:=xs,argTypes:=_},.SP k g p=>f==g&&Ow P f .load k&&fY xs.toList [p]
 | .call {callee:= .value (.func f),args:=xs,argTypes:=_},.SA k g p v=>f==g&&Ow P f .add k&&fY xs.toList [p,v]
 | .call {callee:= .builtin .copy,args:=xs,argTypes:=ts},.copy z d x=>fY xs.toList [d,x]&&(match ts.toList with
  |[t,u]=>(HL P t z).isSome&&(match P.underlying u with|some (.slice _)=>true|_=>false)
  |_=>false)
 | .extract x i,.extract i' y=>i==i'&&cK x y
 | .nilCheck x,.re y=>cK x y
 | .makeFunc (.func f) fst Bb,.CL g XX=>f==g&&fst.size==0&&fY Bb.toList XX
 | .call {callee:= .value (.func f),args:=xs,argTypes:=_},.rY g ys=>f==g&&fY xs.toList ys
 | .call {callee:= .value (.func f),args:=xs,argTypes:=_},.Bm g ys=>f==g&&fY xs.toList ys
 | .call {callee:= .value (.func f),args:=xs,argTypes:=_},.Fj g ys=>f==g&&fY xs.toList ys
 | .call {callee:= .value (.func f),args:=xs,argTypes:=_},.ib g ys=>f==g&&fY xs.toList ys
 | .call {callee:= .value (.func f),args:=xs,argTypes:=_},.ig g ys=>f==g&&fY xs.toList ys
 | .call {callee:= .value (.func f),args:=xs,argTypes:=_},.cl _ _ g ys=>f==g&&fY xs.toList ys
 | .call {callee:= .value (.func f),args:=xs,argTypes:=_},.Bg _ _ _ g ys=>f==g&&fY xs.toList ys
 | .call {callee:= .value x,args:=xs,argTypes:=_},.oD g ys=>cK x g&&fY xs.toList ys
 | .call {callee:= .value x,args:=xs,argTypes:=_},.MT g ys=>cK x g&&fY xs.toList ys
 | .makeMap _ none,.zB=>true
 | .lookup t x i ok,.SL m k=> !ok&&Tj P t&&cK x m&&cK i k
 | .mapUpdate t x i y,.Za m k z| .insert t x i y,.Za m k z=>Tj P t&&cK x m&&cK i k&&cK y z
 | .makeInterface t x,.VG t' y=>t==t'&&concrete P t&&cK x y
 |_,.bad=>true
 |_,_=>false
def Pw(P:Program)(o:Op)(d:aT):Bool:=
 match d with
 | .im d=>decide (d.kind=1)&&Up P o d
 | .rd d=>Up P o d
 | .rz _ d=>decide (d.kind=1)&&Up P o d
 | .fz d=>Up P o d
 | .rk _ d=>Up P o d
 | .tk _ _ d=>Up P o d
 | .to _ d=>Up P o d
 | .ei f args=>Up P o (.Fj f args)&&Up P o (.rY f args)
 |d=>Up P o d
def HB(ops:Array Oper):Option (Nat×Bool)->Option (Nat×Bool)->Bool
 |none,none=>true
 |some (j,b),some (t,b')=>decide ((ops[j]?).bind (·.dst)=some t)&&b==b'
 |_,_=>false
def Ku(P:Program)(N:Nat)(ops:Array Oper)(o:Oper)(d:af):Bool:=
 Pw P o.op d.op&&decide (o.dst=d.dst)&&(match d.dst with|some t=>decide (t<N)|none=>true)&&HB ops o.guard d.guard
def yi(P:Program)(N:Nat)(ops:Array Oper):List Oper->List af->Bool
 |[],[]=>true
 |o::r,d::s=>Ku P N ops o d&&yi P N ops r s
 |_,_=>false
end Go.Nk
set_option linter.all false
namespace Go.Nk
open Go.RowKit
section
variable {P:Program} {F:Nat->Prop} {σ:Nat->BI} {B:List ae} {w:World}
theorem CZ{v:Value}{d:J}(h:KJ v d=true):cB F w d v:=by
 unfold KJ at h;split at h
 .simp at h;obtain⟨rfl,rfl⟩:=h;exact .int _ _
 .simp at h;subst h;exact .bool _
 .rename_i s l;simp at h;have:s=⟨l.toArray⟩:=by rw[<-h]
  rw[this];exact .str _
 .exact .nil
 .exact .sl [] none 0 0 ⟨0,0,none⟩ 0 (λ_ _=> .int .i64 0) rfl (By _) (λh=>absurd rfl h) (λi e h=>by simp at h) (λi j d h=>by simp[cellAt]at h) (λi j d h=>by simp[cellAt]at h)
 .exact .rf
 .cases h
theorem tJ:∀{vs:List Value} {ds:Ab},ry vs ds=true->
 ds.length=vs.length/\∀(j:Nat) (d:J),ds[j]? =some d->∃u,vs[j]? =some u/\cB F w d u/\d.one=true
 |[],[],_=>⟨rfl,λj d h=>by simp at h⟩
 |v::vs,d::ds,h=>by
  simp only[ry,ab]at h;obtain⟨hl,E⟩:=tJ h.2;refine⟨by simp[hl],λj e he=>?_⟩;cases j with
  |zero=>
   simp at he;subst he;have hi:=CZ (F:=F) (w:=w) h.1;exact⟨v,rfl,hi,by cases hi<;>rfl⟩
  |succ j=>simp_all
 |[],_::_,h=>by simp[ry]at h
 |_::_,[],h=>by simp[ry]at h
theorem xI:∀{vs:List Value} {ds:Ab},sY vs ds=true->
 ds.length=vs.length/\∀(j:Nat) (d:J),ds[j]? =some d->∃u,vs[j]? =some u/\aC F σ B w d u
 |[],[],_=>⟨rfl,λj d h=>by simp at h⟩
 |v::vs,d::ds,h=>by
  simp only[sY,ab]at h;obtain⟨hl,E⟩:=xI h.2;refine⟨by simp[hl],λj e he=>?_⟩;cases j with
  |zero=>
   simp at he;subst he;refine⟨v,rfl,?_⟩;have h1:=h.1;split at h1
   .exact .undef _
   .exact .aV (CZ h1)
  |succ j=>simp_all
 |[],_::_,h=>by simp[sY]at h
 |_::_,[],h=>by simp[sY]at h
theorem ag5{v:Value}{d:J}(h:wZ v d=true):aC F σ B w d v:=by
 unfold wZ at h;split at h
 next vs ds=>obtain⟨hl,E⟩:=tJ (F:=F) (w:=w) h;exact aC.wc (by omega) λj d Z=>by obtain⟨u,hu,hi,_⟩:=E j d Z;exact⟨u,by simp_all,.aV hi⟩
 next vs ds=>obtain⟨hl,E⟩:=tJ (F:=F) (w:=w) h;exact aC.Zl (by omega) λj d Z=>by obtain⟨u,hu,hi,_⟩:=E j d Z;exact⟨u,by simp_all,.aV hi⟩
 .exact .undef _
 .exact .aV (CZ h)
def jZ(F:Nat->Prop)(σ:Nat->BI)(B:List ae)(w:World)(R:List (Nat×J))(tmps:Array Value):Prop:=
 ∀n,aC F σ B w (get n R) (tmps.getD n undef)
theorem aD{a:Act}{R:List (Nat×J)}(hf:jZ F σ B w R a.tmps){x:Operand}{d:DA}(h:cK x d=true):aC F σ B w (d.ev R) (a.eval x):=by
 unfold cK at h;split at h
 .simp at h;subst h;exact hf _
 .exact ag5 h
 .simp at h;subst h;exact .aV (.aFM _)
 .exact .undef _
 .cases h
theorem M8{a:Act}{R:List (Nat×J)}(hf:jZ F σ B w R a.tmps):∀{xs:List Operand} {ds:List DA},fY xs ds=true->
 ds.length=xs.length/\∀(j:Nat) (d:J),(ds.map (·.ev R))[j]? =some d->∃u,(xs.map a.eval)[j]? =some u/\aC F σ B w d u
 |[],[],_=>⟨rfl,λj d h=>by simp at h⟩
 |x::xs,d::ds,h=>by
  simp only[fY,ab]at h;obtain⟨hl,E⟩:=M8 hf h.2;refine⟨by simp[hl],λj e he=>?_⟩;cases j with
  |zero=>simp at he;subst he;exact⟨_,rfl,aD hf h.1⟩
  |succ j=>grind
 |[],_::_,h=>by simp[fY]at h
 |_::_,[],h=>by simp[fY]at h
theorem aB9(op:BinOp)(t:TypeId)(k:IntKind)(x y:Int)(h:(cX op k x y).1):
 ∃v,(binOp op t (.int k x) (.int k y)).run P w= .ok v w/\cB F w (cX op k x y).2 v:=by
 cases op<;>simp only[cX]at h|- <;>
  first
  |exact h.elim
  |(refine⟨_,?_,cB.int _ _⟩;simp[binOp,Op.intArith,Op.intDiv,Op.intBits,bitsOf,h];done)
  |(refine⟨_,?_,cB.bool _⟩;simp[binOp,Op.intCmp];done)
theorem aCa(op:BinOp)(t:TypeId)(x y:B3)(h:(FL op x y).1):
 ∃v,(binOp op t (.string ⟨x.toArray⟩) (.string ⟨y.toArray⟩)).run P w= .ok v w/\cB F w (FL op x y).2 v:=by
 have I:∀l:B3,(⟨l.toArray⟩:ByteArray).size=l.length:=λl=>by simp[ByteArray.size]
 have VK:(⟨x.toArray⟩:ByteArray)++⟨y.toArray⟩=⟨(x++y).toArray⟩:=by apply ByteArray.ext;simp_all
 cases op<;>simp only[FL]at h|- <;>
  first
  |exact h.elim
  |(refine⟨_,?_,cB.bool _⟩;simp[binOp,Op.stringOp];done)
  |(refine⟨_,?_,cB.str _⟩
    have h':¬(((x.length:Int)+(y.length:Int))>IntKind.i64.max):=by
     simp only[gj]at h;have:IntKind.i64.max=9223372036854775807:=by decide
     omega
    simp_all[binOp,Op.stringOp,Int.natCast_add,ba,Sem.run_pure])
theorem aFO(op:UnOp)(d:J)(v:Value)(hv:aC F σ B w d v)(h:(FE op d).1):∃u,(Op.unary op v).run P w= .ok u w/\cB F w (FE op d).2 u:=by
 unfold FE at h|-;split at h
 next k n=>have:=hv.gE;subst this;cases op<;>first|exact h.elim|(refine⟨_,?_,cB.int _ _⟩;simp[Op.unary,Op.intArith,Op.intBits,bitsOf];done)
 next b=>have:=hv.jF;subst this;cases op<;>first|exact h.elim|(refine⟨_,?_,cB.bool _⟩;simp[Op.unary];done)
 simp_all
theorem bO{t:TypeId}{d:TypeDesc}(h:P.underlying t=some d):(underlying t).run P w= .ok d w:=run_underlying h w
theorem aCb{t:TypeId}(ht:P.underlying t=some .bool)(a b:Bool):(Op.equal t (.bool a) (.bool b)).run P w= .ok (a==b) w:=by
 have h:∀n:Nat,(Op.equalIn (n+1) t (.bool a) (.bool b)).run P w= .ok (a==b) w:=λn=>by simp[Op.equalIn,bO ht]
 exact h 9999
theorem av2{t e:TypeId}(ht:P.underlying t=some (.pointer e))(a b:Option Addr)(h:a=none\/b=none):
 (Op.equal t (.pointer a) (.pointer b)).run P w= .ok (a.isNone&&b.isNone) w:=by
 have h:∀n:Nat,(Op.equalIn (n+1) t (.pointer a) (.pointer b)).run P w= .ok (a.isNone&&b.isNone) w:=λn=>by
  rcases h with rfl|rfl
  .cases b<;>simp[Op.equalIn,bO ht]
  .cases a<;>simp[Op.equalIn,bO ht]
 exact h 9999
theorem aCc{t e:TypeId}(ht:P.underlying t=some (.slice e))(A:Option Addr)(n c:Nat):
 (Op.equal t (.slice A n c) (.slice none 0 0)).run P w= .ok A.isNone w:=by
 have h:∀k:Nat,(Op.equalIn (k+1) t (.slice A n c) (.slice none 0 0)).run P w= .ok A.isNone w:=λk=>by cases A<;>simp[Op.equalIn,bO ht]
 exact h 9999
theorem Tr{t:TypeId}{sz:BI}(lP:Tg P t=some sz){cs:Ab}{vs:Array Value}(hl:cs.length=vs.size)
 (hv:∀(j:Nat) (d:J),cs[j]? =some d->∃u,vs[j]? =some u/\aC F σ B w d u) (off:Nat) (h:(bw sz (True,cs.drop off)).1):
 ∃u,(part t vs off).run P w= .ok u w/\aC F σ B w (bw sz (True,cs.drop off)).2 u:=by
 unfold Tg at lP;split at lP
 next fs i hu hi=>simp at lP;subst lP;simp only[bw,Bt,S0]at h|-;refine⟨_,by simp[part,isAgg,bO hu,sizeOf,typeInfo,hi];rfl,aC.wc ?_ λj d Z=>?_⟩;all_goals grind
 next fs e i hu hi=>simp at lP;subst lP;simp only[bw,Bt,S0]at h|-;refine⟨_,by simp[part,isAgg,bO hu,sizeOf,typeInfo,hi];rfl,aC.wc ?_ λj d Z=>?_⟩;all_goals grind
 .rename_i d i h1 h2 hu hi;simp at lP;subst lP;simp only[bw,Bt,S0]at h|-;have mP:off<cs.length:=by omega
  obtain⟨u,Ej,E⟩:=hv off cs[off] (by simp[mP]);simp_all[isAgg,Sem.run_bind,bO,Result.andThen_ok,part,undef]
 .cases lP
theorem cB.ud{es:List Ab}{v:Value}(h:cB F w (.sl es) v):
 ∃A c z,v= .slice A es.length c/\es.length<=c/\(es≠[]->∃a,A=some a/\a.spot=none/\F a.block/\
  ∀i j d,cellAt es i j=some d->∃u,w.cell? ⟨a.block,a.off+(i*z+j),none⟩=some u/\d.one=true/\cB F w d u)/\
  (∀(i:Nat) (e:Ab),es[i]? =some e->e.length=z):=by
 cases h with
 |sl es A n c a z cv hn l7 hA hz hc E=>
  subst hn;exact⟨A,c,z,rfl,l7,λh=>⟨a,(hA h).1,(hA h).2.1,(hA h).2.2,λi j d Z=>⟨_,(hc i j d Z).1,(hc i j d Z).2,E i j d Z⟩⟩,hz⟩
theorem cB.kC{cs:Ab}{v:Value}(h:cB F w (.ref cs) v):
 ∃a,v= .pointer (some a)/\a.spot=none/\F a.block/\∀(j:Nat) (d:J),cs[j]? =some d->∃u,w.cell? ⟨a.block,a.off+j,none⟩=some u/\d.one=true/\cB F w d u:=by
 cases h with
 |ref cs a cv I hF hc E=>grind
theorem cB.Ov{z:Nat}{es:List Ab}{A:Option Addr}{c:Nat}(Fh:es.length<=c)(hz:∀(i:Nat) (e:Ab),es[i]? =some e->e.length=z)
 (h:es≠[]->∃a,A=some a/\a.spot=none/\F a.block/\∀i j d,cellAt es i j=some d->∃u,w.cell? ⟨a.block,a.off+(i*z+j),none⟩=some u/\d.one=true/\cB F w d u):
 cB F w (.sl es) (.slice A es.length c):=by
 by_cases he:es=[]
 .subst he;exact .sl [] A 0 c ⟨0,0,none⟩ z (λ_ _=>undef) rfl (AI _) (λh=>absurd rfl h) hz (λi j d Z=>by simp[cellAt]at Z) (λi j d Z=>by simp[cellAt]at Z)
 .obtain⟨a,rfl,I,hF,hc⟩:=h he;refine .sl es (some a) _ c a z (λi j=>(w.cell? ⟨a.block,a.off+(i*z+j),none⟩).getD undef) rfl Fh (λ_=>⟨rfl,I,hF⟩) hz (λi j d Z=>?_) (λi j d Z=>?_);all_goals grind
theorem cB.wo{cs:Ab}{a:Addr}(I:a.spot=none)(hF:F a.block)
 (hc:∀(j:Nat) (d:J),cs[j]? =some d->∃u,w.cell? ⟨a.block,a.off+j,none⟩=some u/\d.one=true/\cB F w d u):cB F w (.ref cs) (.pointer (some a)):=by
 refine .ref cs a (λj=>(w.cell? ⟨a.block,a.off+j,none⟩).getD undef) I hF (λj d Z=>?_) (λj d Z=>?_);all_goals grind
theorem lY{a:Addr}(h:a.spot=none)(n:Nat):a.add n=⟨a.block,a.off+n,none⟩:=by
 unfold Addr.add;split
 .subst_vars;cases a;simp_all
 .rfl
theorem ayk{t:TypeId}{sz:BI}(lP:Tg P t=some sz){An:J->Value->Prop}{cs:Ab}{a:Addr}(I:a.spot=none)
 (hc:∀(j:Nat) (d:J),cs[j]? =some d->∃u,w.cell? ⟨a.block,a.off+j,none⟩=some u/\An d u) (h:(bw sz (True,cs)).1):
 ∃u,(loadVar t a).run P w= .ok u w/\(match sz with|none=>∃d,cs[0]? =some d/\An d u|some n=>∃vs:Array Value,u= .agg vs/\vs.size=n/\∀(j:Nat) (d:J),(cs.take n)[j]? =some d->∃x,vs[j]? =some x/\An d x):=by
 have big:∀n:Nat,n<=cs.length->∃vs:Array Value,(loadCells a n).run P w= .ok vs w/\vs.size=n/\∀(j:Nat) (d:J),(cs.take n)[j]? =some d->∃x,vs[j]? =some x/\An d x:=by
  intro n hn;have hcell:∀j,j<n->w.cell? (a.add j)=some ((w.cell? (a.add j)).getD undef):=by intro j hj;obtain⟨u,hu,_⟩:=hc j cs[j] (by simp);rw[lY I,hu];rfl
  have hl:=run_loadCells (P:=P) (w:=w) a n (λj=>(w.cell? (a.add j)).getD undef) hcell;grind[Rq,lY]
 unfold Tg at lP;split at lP
 next fs i hu hi=>simp at lP;subst lP;simp only[bw,Bt]at h;obtain⟨vs,h1,h2,h3⟩:=big i.size h;exact⟨.agg vs,by simp[loadVar,isAgg,bO hu,sizeOf,typeInfo,hi,h1],vs,rfl,h2,h3⟩
 next n e i hu hi=>simp at lP;subst lP;simp only[bw,Bt]at h;obtain⟨vs,h1,h2,h3⟩:=big i.size h;exact⟨.agg vs,by simp[loadVar,isAgg,bO hu,sizeOf,typeInfo,hi,h1],vs,rfl,h2,h3⟩
 .rename_i d i h1 h2 hu hi;simp at lP;subst lP;simp only[bw,Bt]at h;obtain⟨u,Ej,E⟩:=hc 0 cs[0] (by simp);have hag:(isAgg t).run P w= .ok false w:=by simp_all[isAgg,Sem.run_bind,bO,Result.andThen_ok]
  refine⟨u,?_,cs[0],by simp,E⟩;have:w.cell? a=some u:=by cases a;simp_all
  simp[loadVar,hag,this]
 .cases lP
end
end Go.Nk
set_option linter.all false
namespace Go.Nk
open Go.RowKit
section
variable {P:Program} {K F:Nat->Prop} {σ:Nat->BI} {B:List ae} {w:World}
theorem tK{w:World}{g:Nat}{c:Array Value}{ty:TypeId}{m:Nat×Nat}(h:w.heap[g]? =some (.cells c ty m))(n:Nat):w.cell? ⟨g,n,none⟩=c[n]? :=by simp[World.cell?,h]
theorem GQ.at_{g z:Nat}{es:List Ab}{An:J->Value->Prop}(h:GQ w g z es An){i j:Nat}{d:J}(Z:cellAt es i j=some d):
 ∃u,w.cell? ⟨g,i*z+j,none⟩=some u/\An d u:=by
 obtain⟨c,ty,hh,_,_,hc⟩:=h;grind[tK]
theorem GQ.mono{g z:Nat}{es:List Ab}{An R':J->Value->Prop}{w':World}(h:GQ w g z es An)(hw:w'.heap[g]? =w.heap[g]?)(hR:∀d v,An d v->R' d v):GQ w' g z es R':=by obtain⟨c,ty,hh,h1,h2,hc⟩:=h;exact⟨c,ty,hw.trans hh,h1,h2,λi j d Z=>let⟨v,hv,E⟩:=hc i j d Z;⟨v,hv,hR _ _ E⟩⟩
theorem VI.mono{g:Nat}{es:List (B3×J)}{An R':J->Value->Prop}{w':World}(h:VI w g es An)(hw:w'.heap[g]? =w.heap[g]?)(hR:∀d v,An d v->R' d v):VI w' g es R':=by obtain⟨c,n,hh,h1,hc⟩:=h;exact⟨c,n,hw.trans hh,h1,λi x U=>let⟨e,he,hk,E⟩:=hc i x U;⟨e,he,hk,hR _ _ E⟩⟩
theorem VI.lt{g:Nat}{es:List (B3×J)}{An:J->Value->Prop}(h:VI w g es An):g<w.heap.size:=by obtain⟨c,n,hh,_⟩:=h;grind
theorem gv.cells{h:Nat}{o:ae}(ho:gv K F σ B w h o)(Z:o.k≠ .dead)(bP:o.es≠[]):
 ∃g,σ h=some g/\GQ w g o.z o.es (λd v=>aC F σ B w d v):=by
 unfold gv at ho;split at ho
 .simp_all
 .rcases ho with⟨h0,_⟩|⟨g,hg,_,_,hb⟩
  .simp_all
  .exact⟨g,hg,hb.mono rfl λd v h=> .aV h.1⟩
 .rcases ho with⟨h0,_⟩|⟨g,hg,_,hb⟩
  .simp_all
  .exact⟨g,hg,hb.mono rfl λd v h=> .aV h.1⟩
 all_goals grind
theorem gv.aqQ{h:Nat}{o:ae}(ho:gv K F σ B w h o)(Z:o.k= .aV\/o.k= .A6)(bP:o.es≠[]):
 ∃g,σ h=some g/\GQ w g o.z o.es (λd v=>cB F w d v/\d.one=true):=by
 grind[gv,absurd]
theorem anX{es:List Ab}{i j k:Nat}{d:J}(h:((es.getD i []).drop j)[k]? =some d):cellAt es i (j+k)=some d:=by grind[cellAt,List.getD]
theorem CU [Inhabited Env](I:bH K F σ B w){d:J}{v:Value}(hv:aC F σ B w d v)(h:(aH B d).1):
 ∃a,v= .pointer (some a)/\a.spot=none/\∀(j:Nat) (e:J),(aH B d).2[j]? =some e->∃u,w.cell? ⟨a.block,a.off+j,none⟩=some u/\aC F σ B w e u:=by
 unfold aH at h|-;split at h
 next cs=>obtain⟨a,rfl,h1,h2,h3⟩:=hv.kC.kC;exact⟨a,rfl,h1,λj e he=>let⟨u,hu,_,E⟩:=h3 j e he;⟨u,hu,.aV E⟩⟩
 .rename_i h' L i j;obtain⟨hh,ho⟩:=hv.DE;cases eX:B[h']? with
  |none=>simp_all
  |some o=>
   simp only[eX]at h|-;split at h
   .exact h.elim
   next hk=>simp only[ba hk];obtain⟨hL,hi⟩:=h;obtain⟨g,hg,D8⟩:=(ho o eX).2 hk hL;obtain⟨g',oT,hb⟩:=(I.obj _ _ eX).cells hk (λe=>by grind);rw[hg]at oT;injection oT with oT;subst oT;refine⟨_,D8,rfl,λk e he=>?_⟩;obtain⟨u,hu,E⟩:=hb.at_ (anX he);grind
 simp_all
theorem aiK [Inhabited Env](I:bH K F σ B w){t:TypeId}{sz:BI}(lP:Tg P t=some sz){d:J}{v:Value}(hv:aC F σ B w d v)
 (h:(bw sz (aH B d)).1):∃u,(Instr.loadAt t v).run P w= .ok u w/\aC F σ B w (bw sz (aH B d)).2 u:=by
 have h1:(aH B d).1:=by cases sz<;>exact h.1
 obtain⟨a,rfl,yr,hc⟩:=CU I hv h1;obtain⟨u,hu,E⟩:=ayk (P:=P) lP yr hc (by grind);refine⟨u,by simp[Instr.loadAt,Instr.sureAddr,hu],?_⟩;cases sz with
 |none=>
  grind[aH,undef,List.getD,bw]
 |some n=>
  obtain⟨vs,rfl,hn,E⟩:=E;exact aC.wc (by simp[hn];exact Nat.min_eq_left h.2) E
theorem aDs{α:Type}(l:List α)(off len:Nat)(h:off+len<=l.length):((l.drop off).take len).length=len:=by simp;omega
theorem aDt{es:List Ab}{off len i j:Nat}{d:J}(h:cellAt ((es.drop off).take len) i j=some d):cellAt es (off+i) j=some d:=by grind[cellAt,Rq]
theorem tH [Inhabited Env](I:bH K F σ B w){d:J}{v:Value}(hv:aC F σ B w d v)(h:(bc B d).pre)(Ox:∀s,d≠ .str s):
 ∃A c z,v= .slice A (bc B d).es.length c/\(bc B d).es.length<=c/\(∀(i:Nat) (e:Ab),(bc B d).es[i]? =some e->e.length=z)/\
  ((bc B d).es≠[]->∃a,A=some a/\a.spot=none/\(F a.block\/∃h L off len,d= .own h L off len/\σ h=some a.block)/\
    ∀i j e,cellAt (bc B d).es i j=some e->∃u,w.cell? ⟨a.block,a.off+(i*z+j),none⟩=some u/\e.one=true/\cB F w e u)/\(A=none->(bc B d).es=[]):=by
 unfold bc at h|-;split at h
 .have:=hv.lM;simp_all
 next es=>obtain⟨A,c,z,rfl,Fh,h1,h2⟩:=hv.ud.ud;refine⟨A,c,z,rfl,Fh,h2,λbP=>?_,λhA=>?_⟩;all_goals simp_all
 .rename_i h' L off len;obtain⟨hh,ho⟩:=hv.sX;cases eX:B[h']? with
  |none=>simp_all
  |some o=>
   simp only[eX]at h|-;split at h
   .rename_i hk;simp only[gr hk];obtain⟨hL,hlen⟩:=h;have D5:o.k≠ .dead:=by grind
    obtain⟨A,cap,D8,hle,hA⟩:=(ho o eX).2 D5 hL;have hl:((o.es.drop off).take len).length=len:=aDs _ _ _ (by omega);have uY:o.es≠[]->∀(i:Nat) (e:Ab),o.es[i]? =some e->e.length=o.z:=λbP=>by obtain⟨g',oT,c',ty,_,_,hz,_⟩:=(I.obj _ _ eX).aqQ hk bP;exact hz
    refine⟨A,cap,o.z,by rw[D8,hl],by omega,λi e he=>?_,λbP=>?_,λhA'=>?_⟩
    .have bP:o.es≠[]:=λe'=>by simp_all
     grind
    .have aBr:0<len:=by grind
     have aFP:o.es≠[]:=λe'=>by simp_all
     rcases hA with h0|⟨g,hg,rfl,Tk⟩
     .omega
     .obtain⟨g',oT,hb⟩:=(I.obj _ _ eX).aqQ hk aFP;rw[hg]at oT;injection oT with oT;subst oT;refine⟨_,rfl,rfl,.inr ⟨h',L,off,len,rfl,hg⟩,λi j e he=>?_⟩;obtain⟨u,hu,E,h1⟩:=hb.at_ (aDt he);grind
    simp_all
   simp_all
 all_goals simp_all
def dM [Inhabited Env](K F:Nat->Prop)(σ:Nat->BI)(B:List ae)(w:World)(val:J)(cU:List ae)(v:Value)(w':World):Prop:=
 ∃F' Be,bH K F' Be cU w'/\jd K F w F' w'/\HM F σ B w F' Be cU w'/\aC F' Be cU w' val v
theorem dM.same [Inhabited Env](I:bH K F σ B w){d:J}{v:Value}(h:aC F σ B w d v):dM K F σ B w d B v w:=
 ⟨F,σ,I,.refl _ _ _,.refl _ _ _ _,h⟩
end
end Go.Nk
set_option linter.all false
namespace Go.Nk
open Go.RowKit
section
variable {P:Program} {K F:Nat->Prop} {σ:Nat->BI} {B:List ae} {w:World} {R:List (Nat×J)} {a:Act} {o:Oper}
def gS(P:Program)(F:Nat->Prop)(σ:Nat->BI)(B:List ae)(w:World)(o:Oper)(a:Act)(val:J):Prop:=
 ∃v,(execOp a.eval o).run P w= .ok (.value v) w/\aC F σ B w val v
theorem aBt{x:Operand}{y:DA}(ho:o.op= .move x\/o.op= .assign x)(hf:jZ F σ B w R a.tmps)(hm:cK x y=true):gS P F σ B w o a (y.ev R):=by refine⟨a.eval x,?_,aD hf hm⟩;rcases ho with ho|ho<;>simp[execOp,ho]
theorem aBv{op:BinOp}{t u:TypeId}{x y:Operand}{x' y':DA}(ho:o.op= .binOp op t x y u)(hf:jZ F σ B w R a.tmps)(U:cK x x'=true)(hy:cK y y'=true)
 (h:(cN op (x'.ev R) (y'.ev R)).1):gS P F σ B w o a (cN op (x'.ev R) (y'.ev R)).2:=by
 have vx:=aD hf U;have vy:=aD hf hy;have key:∃v,(do eqGuard op t x y (a.eval x) (a.eval y);binOp op t (a.eval x) (a.eval y):Sem Value).run P w= .ok v w/\cB F w (cN op (x'.ev R) (y'.ev R)).2 v:=by
  generalize x'.ev R=dx at*;generalize y'.ev R=dy at*;unfold cN at h|-;split at h
  .rename_i k i k' j;have Y:=vx.gE;have e2:=vy.gE;rw[Y,e2];have hg:(eqGuard op t x y (.int k i) (.int k' j)).run P w= .ok () w:=by unfold eqGuard;simp_all
   rw[Sem.run_bind,hg,Result.andThen_ok];split at h
   .refine⟨_,?_,cB.int _ _⟩;have:¬j<0:=by simpa using h
    simp[binOp,Op.shift,this]
   .refine⟨_,?_,cB.int _ _⟩;have:¬j<0:=by simpa using h
    simp[binOp,Op.shift,this]
   .rename_i n1 n2;split at h
    next hk=>subst hk;rw[gr rfl];exact aB9 op t k i j h
    simp_all
  next s1 s2=>have Y:=vx.o8;have e2:=vy.o8;simp_all[eqGuard,Sem.run_bind,Result.andThen_ok,aCa]
  simp_all
 obtain⟨v,h1,h2⟩:=key;exact⟨v,by simp only[execOp,ho,Sem.run_bind]at h1|-;rw[h1];rfl,.aV h2⟩
theorem wm{n:Bool}{op:BinOp}(h:isEq n op=true):(n=true/\op= .neq)\/(n=false/\op= .eql):=by grind[isEq]
theorem XY{op:BinOp}{n:Bool}{t u:TypeId}{x y:Operand}(ho:o.op= .binOp op t x y u)(b:Bool)
 (hg:(eqGuard op t x y (a.eval x) (a.eval y)).run P w= .ok () w) (hb:(binOp op t (a.eval x) (a.eval y)).run P w= .ok (.bool (if n then !b else b)) w):
 gS P F σ B w o a (.bool (if n then !b else b)):=by
 refine⟨_,?_,.aV (.bool _)⟩;simp_all[execOp,Sem.run_bind,Result.andThen_ok]
theorem aBw{op:BinOp}{n:Bool}{t u:TypeId}{x y:Operand}{x' y':DA}(ho:o.op= .binOp op t x y u)(hn:isEq n op=true)(ht:P.underlying t=some .bool)(hf:jZ F σ B w R a.tmps)(U:cK x x'=true)(hy:cK y y'=true)
 (h:(JV n (x'.ev R) (y'.ev R)).1):gS P F σ B w o a (JV n (x'.ev R) (y'.ev R)).2:=by
 have vx:=aD hf U;have vy:=aD hf hy;generalize x'.ev R=dx at*;generalize y'.ev R=dy at*;unfold JV at h|-;split at h
 .rename_i p q;have Y:=vx.jF;have e2:=vy.jF;refine XY ho (p==q) ?_ ?_<;>rw[Y,e2]
  .unfold eqGuard;simp_all
  .rcases wm hn with⟨rfl,rfl⟩|⟨rfl,rfl⟩<;>simp[binOp,aCb ht]
 simp_all
theorem aDu{k:Nat}{ks:List Nat}{cs ds:Ab}{r:Bool}(h:eF (k::ks) cs ds=some r):
 ∃(c:J) (Wy:Ab) (d:J) (GR:Ab) (b:Bool),cs=c::Wy/\ds=d::GR/\∀XZ Xa Xb,eF (k::XZ) (c::Xa) (d::Xb)=if b then eF XZ Xa Xb else some false:=by
 rcases cs with _|⟨c,cs⟩
 .simp_all[eF]
 rcases ds with _|⟨d,ds⟩
 .simp_all[eF]
 rcases k with _|_|_|k<;>cases c<;>cases d<;>try(simp[eF]at h;done)
 .rename_i k1 a k2 b;by_cases hk:k1=k2
  .exact⟨_,_,_,_,(a==b),rfl,rfl,λXZ Xa Xb=>by simp only[eF,gr hk]⟩
  .simp[eF,ba hk]at h
 next a b=>exact⟨_,_,_,_,(a==b),rfl,rfl,λXZ Xa Xb=>rfl⟩
 next a b=>exact⟨_,_,_,_,(a==b),rfl,rfl,λXZ Xa Xb=>rfl⟩
theorem an3:∀(n:Nat) (ks:List Nat) (cs ds:Ab) (r:Bool),n<=ks.length->eF ks cs ds=some r->
 ∃q,eF (ks.take n) (cs.take n) (ds.take n)=some q/\(if q then eF (ks.drop n) (cs.drop n) (ds.drop n)else some false)=some r
 |0,ks,cs,ds,r,_,h=>⟨true,by simp[eF],by simpa using h⟩
 |n+1,[],cs,ds,r,hn,h=>by simp at hn
 |n+1,k::ks,cs,ds,r,hn,h=>by
  have hn':n<=ks.length:=by simp_all
  obtain⟨c,Wy,d,GR,b,rfl,rfl,hb⟩:=aDu h;rw[hb]at h;simp only[Rl,List.drop_succ_cons,hb];cases b
  .simp_all
  simp_all[an3]
theorem uO{nest:TypeId->List Nat->Bool}{cs ds:Ab}{vs us:Array Value}(hv:∀(j:Nat) (d:J),cs[j]? =some d->∃u,vs[j]? =some u/\aC F σ B w d u)(hu:∀(j:Nat) (d:J),ds[j]? =some d->∃u,us[j]? =some u/\aC F σ B w d u)
 (Xc:cs.length=vs.size) (l8:ds.length=us.size) (k':Nat)
 (wq:∀t ks Wy GR u v q,nest t ks=true->Wy.length=ks.length->GR.length=ks.length->aC F σ B w (.agg Wy) u->aC F σ B w (.agg GR) v->eF ks Wy GR=some q->(Op.equalIn (k'+1) t u v).run P w= .ok q w):
 ∀(fs:List Field) (ks:List Nat) (k:Nat) (r:Bool),nD P nest k fs ks=true->cs.length=k+ks.length->ds.length=k+ks.length->eF ks (cs.drop k) (ds.drop k)=some r->
 (Op.eqFields (k'+1) vs us fs).run P w= .ok r w
 |[],ks,k,r,I,_,_,h=>by
  simp only[nD,List.isEmpty_iff]at I;subst I;unfold eF at h;split at h
  .simp_all[GB,Op.eqFields]
  all_goals simp_all
 |f::fs,ks,k,r,I,g1,g2,h=>by
  simp only[nD,ab,GO,Kf,Br]at I;obtain⟨⟨ho,hn⟩,E⟩:=I;have go:∀(u v:Value) (b:Bool),(part f.type vs k).run P w= .ok u w->(part f.type us k).run P w= .ok v w->(Op.equalIn (k'+1) f.type u v).run P w= .ok b w->
   (b=true->(Op.eqFields (k'+1) vs us fs).run P w= .ok r w)->(b=false->r=false)->(Op.eqFields (k'+1) vs us (f::fs)).run P w= .ok r w:=by
   intro u v b pu pv hb h1 h2;simp only[Op.eqFields,Br,hn,not_false_eq_true,Bp,ho,Sem.run_bind,pu,pv,hb,Result.andThen_ok];simp_all
  split at E
  .rename_i lP;split at E
   .rename_i n ns;simp only[ab]at E;obtain⟨hsc,E⟩:=E;have fit:∀(x y:J) (t t':Ab),cs.drop k=x::t->ds.drop k=y::t'->t=cs.drop (k+1)/\t'=ds.drop (k+1)/\
     ∃u v,(part f.type vs k).run P w= .ok u w/\(part f.type us k).run P w= .ok v w/\aC F σ B w x u/\aC F σ B w y v:=by
     intro x y t t' Y e2;have a1:t=cs.drop (k+1):=by rw[<-List.drop_drop,Y];rfl
     have a2:t'=ds.drop (k+1):=by rw[<-List.drop_drop,e2];rfl
     obtain⟨u,pu,ru⟩:=Tr (P:=P) lP Xc hv k (by rw[Y];simp[bw]);obtain⟨v,pv,rv⟩:=Tr (P:=P) lP l8 hu k (by rw[e2];simp[bw]);simp_all[bw]
    have step:∀(u v:Value) (b:Bool),(part f.type vs k).run P w= .ok u w->(part f.type us k).run P w= .ok v w->(Op.equalIn (k'+1) f.type u v).run P w= .ok b w->
     (if b then eF ns (cs.drop (k+1)) (ds.drop (k+1))else some false)=some r->(Op.eqFields (k'+1) vs us (f::fs)).run P w= .ok r w:=by
     intro u v b pu pv hb tO;refine go u v b pu pv hb (λe=>?_) (λe=>?_)
     .subst e;exact uO hv hu Xc l8 k' wq fs ns (k+1) r E (by grind) (by grind) (by grind)
     grind
    unfold eF at h;split at h
    .grind
    .rename_i ks1 k1 a r1 k2 b s1 e0 Y e2;cases e0;obtain⟨rfl,rfl,u,v,pu,pv,ru,rv⟩:=fit _ _ _ _ Y e2;split at h
     next hk=>subst hk;have f1:=ru.gE;have f2:=rv.gE;grind[KK,step,run_equalIn_int]
     .cases h
    next ks1 a r1 b s1 e0 Y e2=>cases e0;obtain⟨rfl,rfl,u,v,pu,pv,ru,rv⟩:=fit _ _ _ _ Y e2;have f1:=ru.jF;have f2:=rv.jF;grind[KK,step,run_equalIn_bool']
    next ks1 a r1 b s1 e0 Y e2=>cases e0;obtain⟨rfl,rfl,u,v,pu,pv,ru,rv⟩:=fit _ _ _ _ Y e2;have f1:=ru.o8;have f2:=rv.o8;grind[KK,step,run_equalIn_string,ByteArray.toList_eq]
    .cases h
   .cases E
  .rename_i n lP;simp only[ab,ir]at E;obtain⟨⟨hle,bP⟩,E⟩:=E;obtain⟨q,h1,h2⟩:=an3 n _ _ _ _ hle h;have l1:n<=(cs.drop k).length/\n<=(ds.drop k).length:=by grind
   obtain⟨u,pu,ru⟩:=Tr (P:=P) lP Xc hv k (by simpa[bw]using l1.1);obtain⟨v,pv,rv⟩:=Tr (P:=P) lP l8 hu k (by simpa[bw]using l1.2);refine go u v q pu pv (wq _ _ _ _ _ _ _ bP (by simp_all) (by simp_all) ru rv h1) (λe=>?_) (λe=>?_)
   .subst e;exact uO hv hu Xc l8 k' wq fs (ks.drop n) (k+n) r E (by grind) (by grind) (by simp_all)
   simp_all
  .cases E
theorem aBy{op:BinOp}{n:Bool}{t u:TypeId}{x y:Operand}{x' y':DA}{ks:List Nat}(ho:o.op= .binOp op t x y u)(hn:isEq n op=true)(ht:HP P t ks=true)(hf:jZ F σ B w R a.tmps)(U:cK x x'=true)(hy:cK y y'=true)
 (h:(Q2 n ks (x'.ev R) (y'.ev R)).1):gS P F σ B w o a (Q2 n ks (x'.ev R) (y'.ev R)).2:=by
 have vx:=aD hf U;have vy:=aD hf hy;generalize x'.ev R=dx at*;generalize y'.ev R=dy at*;unfold HP at ht;split at ht
 .rename_i fs hu;simp only[ab,aaa]at ht;obtain⟨⟨I,PK⟩,hg⟩:=ht;have Xd:P.fieldsOf t=fs:=by simp[Program.fieldsOf,hu]
  unfold Q2 at h|-;split at h
  .rename_i cs ds;obtain⟨vs,Y,l1,r1⟩:=vx.rm;obtain⟨us,e2,l2,r2⟩:=vy.rm;split at h
   .rename_i r E;obtain⟨g1,g2⟩:=h;have z3:(Op.equalIn 10000 t (.agg vs) (.agg us)).run P w= .ok r w:=by
     rw[run_equalIn_struct w 9999 t vs us (by simp_all) PK,Xd];refine uO r1 r2 l1 l2 9998 (λt' ks' Wy GR u v q bP n1 n2 ru rv hq=>?_) fs.toList ks 0 r I (by omega) (by omega) E;unfold av0 at bP;split at bP
     .rename_i gs Ej;simp only[ab,aaa]at bP;obtain⟨yr,aFQ⟩:=bP;obtain⟨Mg,rfl,l1',lA⟩:=ru.rm;obtain⟨us',rfl,l2',lb⟩:=rv.rm;have Xe:P.fieldsOf t'=gs:=by simp[Program.fieldsOf,Ej]
      rw[run_equalIn_struct w 9998 t' Mg us' (by simp_all) aFQ,Xe];exact uO lA lb l1' l2' 9997 (λ_ _ _ _ _ _ _ h=>by cases h) gs.toList ks' 0 q yr (by omega) (by omega) hq
     .cases bP
    refine XY ho r ?_ ?_<;>rw[Y,e2]
    .exact run_eqGuard_agg w op t x y vs us hg
    .rcases wm hn with⟨rfl,rfl⟩|⟨rfl,rfl⟩;all_goals simp_all[run_neq_struct,run_eql_struct]
   simp_all
  simp_all
 .cases ht
theorem ax2{C:dJ}{op:BinOp}{n:Bool}{t u e:TypeId}{x:Operand}{x':DA}(ho:o.op= .binOp op t x (.const (.slice none 0 0)) u)(hn:isEq n op=true)(ht:P.underlying t=some (.slice e))(hf:jZ F σ B w R a.tmps)(U:cK x x'=true)
 (h:(au C (.Pt n x') ⟨R,B⟩).pre):gS P F σ B w o a (au C (.Pt n x') ⟨R,B⟩).val:=by
 have vx:=aD hf U;simp only[au]at h|-;generalize x'.ev R=dx at*;have key:∀A m c,a.eval x= .slice A m c->gS P F σ B w o a (.bool (if n then !A.isNone else A.isNone)):=by
  intro A m c Y;have e2:a.eval (.const (.slice none 0 0))= .slice none 0 0:=rfl;refine XY ho _ ?_ ?_<;>rw[Y,e2]
  .unfold eqGuard;simp_all
  .rcases wm hn with⟨rfl,rfl⟩|⟨rfl,rfl⟩<;>simp[binOp,aCc ht]
 have aLi:∀b,gS P F σ B w o a (.bool b)->gS P F σ B w o a .Hy:=by
  rintro b ⟨v,h1,h2⟩
  exact⟨v,h1,by rw[h2.jF];exact .aV (.Hy b)⟩
 split at h
 .have:=key none 0 0 vx.lM;simp_all
 .obtain⟨A,m,c,Y⟩:∃A m c,a.eval x= .slice A m c:=by generalize a.eval x=v at vx|-;cases vx.ud;simp_all
  grind
 .rename_i r s;obtain⟨A,m,c,Y,hA⟩:∃A m c,a.eval x= .slice A m c/\A.isNone=false:=by
   generalize a.eval x=v at vx|-;cases vx.ud with
   |sl _ A m c b z cv _ _ hA=>simp_all
  simp_all
 .rename_i h' L off len;obtain⟨hl,eX⟩:=vx.sX;obtain⟨A,cap,Y,Fh,e2⟩:∃A cap,a.eval x= .slice A len cap/\len<=cap/\(cap=0\/A.isNone=false):=by
   unfold alive at h;cases JD:B[h']? with
   |none=>simp_all
   |some ob=>
    simp only[JD]at h;obtain⟨A,cap,Y,e2,e3⟩:=(eX ob JD).2 h.1 h.2;grind
  grind
 .exact h.elim
theorem ax1{op:BinOp}{n:Bool}{t u e:TypeId}{x y:Operand}(ho:o.op= .binOp op t x y u)(hn:isEq n op=true)(ht:P.underlying t=some (.pointer e)){p q:Option Addr}(Y:a.eval x= .pointer p)(e2:a.eval y= .pointer q)(wv:p=none\/q=none):
 gS P F σ B w o a (.bool (if n then !(p.isNone&&q.isNone)else(p.isNone&&q.isNone))):=by
 refine XY ho _ ?_ ?_<;>rw[Y,e2]
 .unfold eqGuard;simp_all
 .rcases wm hn with⟨rfl,rfl⟩|⟨rfl,rfl⟩<;>simp[binOp,av2 ht p q wv]
theorem aBx{op:BinOp}{n:Bool}{t u e:TypeId}{x y:Operand}{x' y':DA}(ho:o.op= .binOp op t x y u)(hn:isEq n op=true)(ht:P.underlying t=some (.pointer e))(hf:jZ F σ B w R a.tmps)(U:cK x x'=true)(hy:cK y y'=true)
 (h:(km n (x'.ev R) (y'.ev R)).1):gS P F σ B w o a (km n (x'.ev R) (y'.ev R)).2:=by
 have vx:=aD hf U;have vy:=aD hf hy;generalize x'.ev R=dx at*;generalize y'.ev R=dy at*;have key:∀p q:Option Addr,a.eval x= .pointer p->a.eval y= .pointer q->(p=none\/q=none)->gS P F σ B w o a (.bool (if n then !(p.isNone&&q.isNone)else(p.isNone&&q.isNone))):=by
  intro p q Y e2 wv;refine XY ho _ ?_ ?_<;>rw[Y,e2]
  .unfold eqGuard;simp_all
  .rcases wm hn with⟨rfl,rfl⟩|⟨rfl,rfl⟩<;>simp[binOp,av2 ht p q wv]
 unfold km at h|-;split at h
 .have:=key none none vx.zG vy.zG (.inl rfl);simp_all
 .obtain⟨b,Y,_⟩:=vx.kC.kC;have:=key _ none Y vy.zG (.inr rfl);simp_all
 .obtain⟨b,Y,_⟩:=vy.kC.kC;have:=key none _ vx.zG Y (.inl rfl);simp_all
 simp_all
theorem aFz{op:UnOp}{t:TypeId}{x:Operand}{x':DA}(ho:o.op= .unOp op t x)(hf:jZ F σ B w R a.tmps)(U:cK x x'=true)
 (h:(FE op (x'.ev R)).1):gS P F σ B w o a (FE op (x'.ev R)).2:=by
 obtain⟨v,h1,h2⟩:=aFO (P:=P) op _ _ (aD hf U) h;exact⟨v,by simp[execOp,ho,h1],.aV h2⟩
theorem ax3{s t:TypeId}{k k':IntKind}{n:Int}{x:Operand}(ho:o.op= .convert s t x)(I:(P.underlying s).isSome=true)(ht:P.underlying t=some (.int k))(U:a.eval x= .int k' n):
 gS P F σ B w o a (.int k (k.wrap n)):=by
 obtain⟨d,Z⟩:=Option.isSome_iff_exists.1 I;refine⟨_,?_,.aV (.int _ _)⟩;simp[execOp,ho,U,convert,bO Z,bO ht,Conv.intToInt]
theorem zH{b:Builtin}{xs:Array Operand}{ts:Array TypeId}{v:Value}{d:J}(ho:o.op= .call {callee:= .builtin b,args:=xs,argTypes:=ts})
 (hb:∀cs,(builtin b ts o.type cs (xs.map a.eval)).run P w= .ok (.value v) w) (hv:aC F σ B w d v):gS P F σ B w o a d:=by
 refine⟨v,?_,hv⟩;simp[execOp,ho,resolve,invoke,hb]
theorem adk{b:Builtin}{mx:Bool}{xs:Array Operand}{ts:Array TypeId}{x y:Operand}{k:IntKind}{m n:Int}(hb:b=if mx then .max else .min)
 (ho:o.op= .call {callee:= .builtin b,args:=xs,argTypes:=ts}) (wy:xs= #[x,y]) (U:a.eval x= .int k m) (hy:a.eval y= .int k n):
 gS P F σ B w o a (.int k (if mx then max m n else min m n)):=by
 subst hb wy;refine zH ho (v:= .int k (if mx then max m n else min m n)) (λcs=>?_) (.aV (.int _ _));cases mx
 .have e:(if n<m then n else m)=min m n:=by omega
  simp[builtin,Builtin.min_,Builtin.min2,U,hy,e]
 .have e:(if m<n then n else m)=max m n:=by omega
  simp[builtin,Builtin.max_,Builtin.max2,U,hy,e]
theorem ax4{xs:Array Operand}{t:TypeId}{x:Operand}{b:B3}(ho:o.op= .call {callee:= .builtin .len,args:=xs,argTypes:= #[t]})(wy:xs= #[x])(ht:P.underlying t=some .string)(U:a.eval x= .string ⟨b.toArray⟩):
 gS P F σ B w o a (.int .i64 b.length):=by
 subst wy;refine zH ho (v:= .int .i64 b.length) (λcs=>?_) (.aV (.int _ _));have e:(⟨b.toArray⟩:ByteArray).size=b.length:=rfl;simp[builtin,Builtin.len_,bO ht,U,goInt,e]
theorem x4{xs:Array Operand}{t e:TypeId}{x:Operand}{A:Option Addr}{n c:Nat}(ho:o.op= .call {callee:= .builtin .len,args:=xs,argTypes:= #[t]})(wy:xs= #[x])(ht:P.underlying t=some (.slice e))(U:a.eval x= .slice A n c):
 gS P F σ B w o a (.int .i64 n):=by
 subst wy;refine zH ho (v:= .int .i64 n) (λcs=>?_) (.aV (.int _ _));simp[builtin,Builtin.len_,bO ht,U,goInt]
theorem aBu{xs:Array Operand}{t e:TypeId}{x:Operand}{A:Option Addr}{n c:Nat}(ho:o.op= .call {callee:= .builtin .cap,args:=xs,argTypes:= #[t]})(wy:xs= #[x])(ht:P.underlying t=some (.slice e))(U:a.eval x= .slice A n c):
 gS P F σ B w o a (.int .i64 c):=by
 subst wy;refine zH ho (v:= .int .i64 c) (λcs=>?_) (.aV (.int _ _));simp[builtin,Builtin.cap_,bO ht,U,goInt]
theorem ax5 [Inhabited Env](I:bH K F σ B w){t:TypeId}{sz:BI}{x:Operand}{x':DA}(ho:o.op= .load t x)(lP:Tg P t=some sz)(hf:jZ F σ B w R a.tmps)(U:cK x x'=true)
 (h:(bw sz (aH B (x'.ev R))).1):gS P F σ B w o a (bw sz (aH B (x'.ev R))).2:=by
 obtain⟨u,hu,E⟩:=aiK (P:=P) I lP (aD hf U) h;exact⟨u,by simp[execOp,ho,hu],E⟩
theorem aud{t:TypeId}{f:Nat}{fs:Array Field}{fl:Field}{sz:BI}{x:Operand}{x':DA}{cs:Ab}(ho:o.op= .field t x f)(ht:P.underlying t=some (.struct fs))(PH:fs[f]? =some fl)(lP:Tg P fl.type=some sz)
 (hf:jZ F σ B w R a.tmps) (U:cK x x'=true) (hcs:x'.ev R= .agg cs) (h:(bw sz (True,cs.drop fl.offset)).1):gS P F σ B w o a (bw sz (True,cs.drop fl.offset)).2:=by
 have hv:=aD hf U;rw[hcs]at hv;obtain⟨vs,Y,hl,hv⟩:=hv.rm;obtain⟨u,hu,E⟩:=Tr (P:=P) lP hl hv fl.offset h;exact⟨u,by simp_all[execOp,Instr.field,bO,asAgg],E⟩
theorem aiP{t:TypeId}{f:Nat}{fs:Array Field}{fl:Field}{i:TypeInfo}{x:Operand}{p:Addr}(ho:o.op= .fieldAddr t x f)(ht:P.underlying t=some (.struct fs))(PH:fs[f]? =some fl)(hi:P.info? fl.type=some i)(bP:i.size≠0)
 (U:a.eval x= .pointer (some p)) (cU:p.spot=none) {d:J} (hv:aC F σ B w d (.pointer (some ⟨p.block,p.off+fl.offset,none⟩))):gS P F σ B w o a d:=by
 refine⟨_,?_,hv⟩;simp_all[execOp,Instr.fieldAt,bO,Instr.sureAddr,fieldPlace,sizeOf,typeInfo,lY]
theorem ado{cs:Ab}{p:Addr}(h:cB F w (.ref cs) (.pointer (some p)))(n:Nat):cB F w (.ref (cs.drop n)) (.pointer (some ⟨p.block,p.off+n,none⟩)):=by obtain⟨b,e,I,hF,hc⟩:=h.kC;injection e with e;injection e with e;subst e;refine cB.wo rfl hF λj d Z=>?_;grind
theorem aiQ{t e:TypeId}{i:TypeInfo}{x y:Operand}{A:Option Addr}{n c:Nat}{k:IntKind}{m:Int}{b:Addr}(ho:o.op= .indexAddr t x y)(ht:P.underlying t=some (.slice e))(hi:P.info? e=some i)
 (U:a.eval x= .slice A n c) (hy:a.eval y= .int k m) (hA:A=some b) (hb:b.spot=none) (h0:0<=m) (h1:m<n) {d:J}
 (hv:aC F σ B w d (.pointer (some ⟨b.block,b.off+m.toNat*i.size,none⟩))):gS P F σ B w o a d:=by
 refine⟨_,?_,hv⟩;simp[execOp,ho,Instr.indexAt,U,hy,asIntOf,bO ht,hA,h0,h1,sizeOf,typeInfo,hi,lY hb]
theorem adp{t e:TypeId}{i:TypeInfo}{x y:Operand}{n:Nat}{k:IntKind}{m:Int}{b:Addr}(ho:o.op= .indexAddr t x y)(ht:P.underlying t=some (.array n e))(hi:P.info? e=some i)
 (U:a.eval x= .pointer (some b)) (hy:a.eval y= .int k m) (hb:b.spot=none) (h0:0<=m) (h1:m<n) {d:J}
 (hv:aC F σ B w d (.pointer (some ⟨b.block,b.off+m.toNat*i.size,none⟩))):gS P F σ B w o a d:=by
 refine⟨_,?_,hv⟩;simp[execOp,ho,Instr.indexAt,U,hy,asIntOf,bO ht,Instr.sureAddr,h0,h1,sizeOf,typeInfo,hi,lY hb]
theorem aue{t:TypeId}{x y:Operand}{k:IntKind}{m:Int}{s:B3}(ho:o.op= .index t x y)(ht:P.underlying t=some .string)
 (U:a.eval x= .string ⟨s.toArray⟩) (hy:a.eval y= .int k m) (h0:0<=m) (h1:m<s.length):gS P F σ B w o a (.int .u8 (s.getD m.toNat 0).toNat):=by
 have mP:m.toNat<s.length:=by omega
 have e:(⟨s.toArray⟩:ByteArray)[m.toNat]? =some s[m.toNat]:=by have I:m.toNat<(⟨s.toArray⟩:ByteArray).size:=mP;exact(getElem?_pos (⟨s.toArray⟩:ByteArray) m.toNat I).trans rfl
 refine⟨_,?_,.aV (.int _ _)⟩;simp_all[execOp,Instr.index,asIntOf,bO,List.getD]
theorem alE{x:Operand}{x':DA}{i:Nat}{ds:Ab}(ho:o.op= .extract x i)(hf:jZ F σ B w R a.tmps)(U:cK x x'=true)(Z:x'.ev R= .b9 ds)(h:i<ds.length):gS P F σ B w o a (ds.getD i .undef):=by have hv:=aD hf U;rw[Z]at hv;obtain⟨vs,Y,hl,hv⟩:=hv.Kx;obtain⟨u,hu,E⟩:=hv i ds[i] (by simp);refine⟨u,by simp[execOp,ho,Instr.extract,Y,hu],?_⟩;grind
theorem Qc{x:Operand}{v:Value}(ho:o.op= .nilCheck x)(U:a.eval x=v)(hv:(∃p,v= .pointer (some p))\/∃f b c,v= .func (.func f) b c){d:J}(E:aC F σ B w d v):gS P F σ B w o a d:=by refine⟨v,?_,E⟩;rcases hv with⟨p,rfl⟩|⟨f,b,c,rfl⟩<;>simp[execOp,ho,U]
theorem aui{f:FuncId}{fst Bb:Array Operand}{XX:List DA}(ho:o.op= .makeFunc (.func f) fst Bb)(aFS:fst.size=0)(hf:jZ F σ B w R a.tmps)(hc:fY Bb.toList XX=true):
 gS P F σ B w o a (.Bg f (XX.map (·.ev R))):=by
 obtain⟨hl,hv⟩:=M8 hf hc;have:fst= #[]:=Array.eq_empty_of_size_eq_zero aFS;subst this;refine⟨.func (.func f) #[] (Bb.map a.eval),by simp[execOp,ho,Instr.makeFunc],aC.ayi (by simp_all) λj d Z=>?_⟩;grind
theorem aqx{c x y:Operand}{c' x' y':DA}{b:Bool}(ho:o.op= .pick c x y)(hf:jZ F σ B w R a.tmps)(hc:cK c c'=true)(U:cK x x'=true)(hy:cK y y'=true)(hb:c'.ev R= .bool b):
 gS P F σ B w o a (if b then x'.ev R else y'.ev R):=by
 have hv:=aD hf hc;rw[hb]at hv;have e:=hv.jF;refine⟨if b then a.eval x else a.eval y,by simp[execOp,ho,e,asBool],?_⟩;grind[aD]
end
end Go.Nk
set_option linter.all false
namespace Go.Nk
open Go.RowKit
section
variable {P:Program} {K F:Nat->Prop} {σ:Nat->BI} {B:List ae} {w:World} {R:List (Nat×J)} {a:Act} {o:Oper}
theorem uP{k:IntKind}{n:Int}{y:Nat}{code:BoundsCode}(h0:0<=n)(h1:n<=y):(Instr.sliceBound (.int k n) y code).run P w= .ok n.toNat w:=by simp[Instr.sliceBound,asIntOf,h0,h1]
theorem aqT(hf:jZ F σ B w R a.tmps){x:Option Operand}{d:Option DA}(h:Na x d=true):
 (x=none/\d=none)\/∃y e,x=some y/\d=some e/\aC F σ B w (e.ev R) (a.eval y):=by
 unfold Na at h;split at h
 .simp_all
 next y e=>exact .inr ⟨y,e,rfl,rfl,aD hf h⟩
 .cases h
def Qe(x:Option Value)(d:Option J)(SE n:Int):Prop:=(x=none/\d=none/\n=SE)\/∃k e,x=some (.int k n)/\d=some e
theorem nE(hf:jZ F σ B w R a.tmps){x:Option Operand}{d:Option DA}(h:Na x d=true){SE:Int}(hb:(fy (d.map (·.ev R)) SE).1):
 Qe (x.map a.eval) (d.map (·.ev R)) SE (fy (d.map (·.ev R)) SE).2:=by
 rcases aqT hf h with⟨rfl,rfl⟩|⟨y,e,rfl,rfl,hv⟩
 .exact .inl ⟨rfl,rfl,rfl⟩
 .simp only[Ka]at hb|-;generalize e.ev R=de at*;cases de<;>simp only[fy]at hb|-;case int k n=>exact .inr ⟨k,_,by rw[hv.gE],rfl⟩
  all_goals exact hb.elim
theorem KL{Xf:Bool}{len cap:Nat}{lo hi mx:Option Value}{dl aoh dm:Option J}{l h m:Int}(S8:Qe lo dl 0 l)(Oy:Qe hi aoh len h)(Ho:Qe mx dm h m)
 (Ts:dm.isSome=true->aoh.isSome=true) (h0:0<=l) (h1:l<=h) (h2:h<=m) (h3:m<=cap):
 ∃M:Nat,(Instr.sliceBounds Xf len cap lo hi mx).run P w= .ok (l.toNat,h.toNat,M) w/\h.toNat<=M/\M<=cap:=by
 rcases Ho with⟨rfl,rfl,rfl⟩|⟨aKt,em,rfl,rfl⟩
 .refine⟨cap,?_,by omega,By _⟩;rcases Oy with⟨rfl,rfl,rfl⟩|⟨aDv,aDw,rfl,rfl⟩
  .rcases S8 with⟨rfl,rfl,rfl⟩|⟨aot,el,rfl,rfl⟩;all_goals simp_all[Instr.sliceBounds,uP]
  .rcases S8 with⟨rfl,rfl,rfl⟩|⟨aot,el,rfl,rfl⟩
   .simp_all[Instr.sliceBounds,uP]
   .have e:l<=(m.toNat:Int):=by omega
    simp[Instr.sliceBounds,uP (show 0<=m by omega) h3,uP h0 e]
 .refine⟨m.toNat,?_,by omega,by omega⟩;rcases Oy with⟨rfl,rfl,rfl⟩|⟨aDv,aDw,rfl,rfl⟩
  .simp at Ts
  .have Y:h<=(m.toNat:Int):=by omega
   rcases S8 with⟨rfl,rfl,rfl⟩|⟨aot,el,rfl,rfl⟩
   .simp[Instr.sliceBounds,uP (show 0<=m by omega) h3,uP (show 0<=h by omega) Y]
   .have e:l<=(h.toNat:Int):=by omega
    simp[Instr.sliceBounds,uP (show 0<=m by omega) h3,uP (show 0<=h by omega) Y,uP h0 e]
theorem extract_mk(s:B3)(l h:Nat):(⟨s.toArray⟩:ByteArray).extract l h=⟨((s.take h).drop l).toArray⟩:=by apply ByteArray.ext;rw[ByteArray.data_extract];grind
theorem aqz{t:TypeId}{x:Operand}{x':DA}{lo hi mx:Option Operand}{Ve Lx:Option DA}(ho:o.op= .slice t x lo hi mx)(ht:P.underlying t=some .string)(Ho:mx=none)(hf:jZ F σ B w R a.tmps)(U:cK x x'=true)
 (S8:Na lo Ve=true) (Oy:Na hi Lx=true) (h:(xJ (x'.ev R) (Ve.map (·.ev R)) (Lx.map (·.ev R))).1):
 gS P F σ B w o a (xJ (x'.ev R) (Ve.map (·.ev R)) (Lx.map (·.ev R))).2:=by
 subst Ho;have hv:=aD hf U;generalize x'.ev R=dx at*;unfold xJ at h|-;split at h
 next s=>obtain⟨hl,hh,h0,h1,h2⟩:=h;have Y:=hv.o8;obtain⟨M,hM,_,_⟩:=KL (P:=P) (w:=w) (Xf:=false) (cap:=s.length) (nE hf S8 hl) (nE hf Oy hh) (.inl ⟨rfl,(rfl:(none:Option J)=none),rfl⟩) (by simp) h0 h1 (Ch _) h2;have lP:(⟨s.toArray⟩:ByteArray).size=s.length:=rfl;refine⟨_,?_,.aV (.str _)⟩;simp only[execOp,ho,Instr.sliceAt,Sem.run_bind,bO ht,Result.andThen_ok,Instr.slice,Y,Option.map_none,GI,AN,Bv,lP];rw[hM];simp[extract_mk]
 simp_all
theorem auf{t e:TypeId}{i:TypeInfo}{x:Operand}{x':DA}{lo hi mx:Option Operand}{Ve Lx lj:Option DA}(ho:o.op= .slice t x lo hi mx)(ht:P.underlying t=some (.slice e))(aFT:P.info? e=some i)
 (hf:jZ F σ B w R a.tmps) (U:cK x x'=true) (S8:Na lo Ve=true) (Oy:Na hi Lx=true) (Ho:Na mx lj=true)
 (h:(jq B i.size (x'.ev R) (Ve.map (·.ev R)) (Lx.map (·.ev R)) (lj.map (·.ev R))).1):
 gS P F σ B w o a (jq B i.size (x'.ev R) (Ve.map (·.ev R)) (Lx.map (·.ev R)) (lj.map (·.ev R))).2:=by
 have hv:=aD hf U;have run:∀{A:Option Addr} {len cap l h m M:Nat},a.eval x= .slice A len cap->(Instr.sliceBounds true len cap (lo.map a.eval) (hi.map a.eval) (mx.map a.eval)).run P w= .ok (l,h,M) w->
  (execOp a.eval o).run P w= .ok (.value (.slice (if M=l then A else A.map (·.add (l*i.size))) (h-l) (M-l))) w:=by
  intro A len cap l h m M Y hb;simp only[execOp,ho,Instr.sliceAt,Sem.run_bind,bO ht,Result.andThen_ok,Instr.slice,Y];rw[hb];simp[sizeOf,typeInfo,aFT]
 generalize x'.ev R=dx at*;unfold jq at h|-;split at h
 .rename_i es;dsimp only at h|-;obtain⟨hz,hl,hh,hm,Ts,h0,h1,h2,h3⟩:=h;obtain⟨A,c,z,Y,Fh,hA,uY⟩:=hv.ud.ud;obtain⟨M,hM,x6,hM2⟩:=KL (P:=P) (w:=w) (Xf:=true) (cap:=c) (nE hf S8 hl) (nE hf Oy hh) (nE hf Ho hm) Ts h0 h1 h2 (by omega);generalize (fy (Ve.map (·.ev R)) 0).2=l at*;generalize (fy (Lx.map (·.ev R)) (es.length:Int)).2=lp at*;refine⟨_,run (m:=0) Y hM,.aV ?_⟩;have hlen:((es.take lp.toNat).drop l.toNat).length=lp.toNat-l.toNat:=by simp;omega
  have hc1:((es.take lp.toNat).drop l.toNat).length<=M-l.toNat:=by omega
  rw[<-hlen];refine cB.Ov (z:=z) hc1 (λi e he=>?_) (λbP=>?_)
  .grind
  .have uK:0<lp.toNat-l.toNat:=by grind
   have EH:es≠[]:=by grind
   obtain⟨b,rfl,Mh,Ki,hb3⟩:=hA EH;have hzi:z=i.size:=by obtain⟨e0,Oz⟩:=List.exists_mem_of_ne_nil es EH;obtain⟨k0,Q8,rfl⟩:=Rm Oz;rw[<-uY k0 _ (tx Q8)];simp_all
   rw[ba (by omega)];have xA:=lY Mh (l.toNat*i.size);refine⟨_,rfl,by simp_all,by simp_all,λj k d Z=>?_⟩;have xo:cellAt es (l.toNat+j) k=some d:=by grind[cellAt,Rq]
   grind
 .rename_i h' L off len;dsimp only at h|-;obtain⟨hl,hh,hm,Ts,h0,h1,h2,h3,eX⟩:=h;obtain⟨mP,xB⟩:=hv.sX;cases JD:B[h']? with
  |none=>simp_all
  |some ob=>
   simp only[JD]at eX;obtain⟨hk,hz,hL⟩:=eX;obtain⟨A,cap,Y,hle,hA⟩:=(xB ob JD).2 hk hL;obtain⟨M,hM,x6,hM2⟩:=KL (P:=P) (w:=w) (Xf:=true) (cap:=cap) (nE hf S8 hl) (nE hf Oy hh) (nE hf Ho hm) Ts h0 h1 h2 (by omega);refine⟨_,run (m:=0) Y hM,.own _ _ _ _ _ rfl mP λo' jP=>?_⟩;rw[JD]at jP;injection jP with jP;subst jP;refine⟨by omega,λ_ _=>⟨_,_,rfl,by omega,?_⟩⟩;rcases hA with hA|⟨g,hg,rfl,Tk⟩
   .left;omega
   .by_cases hMl:M=(fy (Ve.map (·.ev R)) 0).2.toNat
    .left;omega
    .right;refine⟨g,hg,?_,?_⟩
     .simp_all[ba,lY,GM]
     .refine D0 (aba _ ?_) Tk;omega
 .obtain⟨hl,hh,hm,Ts,h0,h1,h2⟩:=h;have Y:=hv.lM;obtain⟨M,hM,x6,hM2⟩:=KL (P:=P) (w:=w) (Xf:=true) (len:=0) (cap:=0) (nE hf S8 hl) (nE hf Oy hh) (h:=(fy (Lx.map (·.ev R)) 0).2) (m:=(fy (lj.map (·.ev R)) 0).2)
   (by rw[h1];exact nE hf Ho hm) Ts (by omega) (by omega) (by omega) (by omega)
  refine⟨_,run (m:=0) Y hM,?_⟩;simp_all
 simp_all
theorem aBz{s t e:TypeId}{x:Operand}{A:Option Addr}{c:Nat}{es:List Ab}(ho:o.op= .convert s t x)(I:P.underlying s=some (.slice e))(he:P.underlying e=some (.int .u8))(ht:P.underlying t=some .string)
 (U:a.eval x= .slice A es.length c) (hb:∀e∈es,∃n,e=[.int .u8 n]) (hA:es≠[]->∃b,A=some b/\b.spot=none/\∀i j d,cellAt es i j=some d->∃u,w.cell? ⟨b.block,b.off+(i*1+j),none⟩=some u/\cB F w d u) (Z3:∀b,A=some b->es=[]->True):
 gS P F σ B w o a (.str (es.map λe=>match e with|[.int _ n]=>UInt8.ofNat n.toNat|_=>0)):=by
 refine⟨_,?_,.aV (.str _)⟩;have key:(convert s t (.slice A es.length c)).run P w= .ok (.string ⟨(es.map λe=>match e with|[.int _ n]=>UInt8.ofNat n.toNat|_=>0).toArray⟩) w:=by
  by_cases bP:es=[]
  .subst bP;cases A with
   |none=>rw[run_convert_bytes_nil w s e I he _ _ t ht];rfl
   |some b=>
    rw[run_convert_bytes_string w s t e _ _ _ I he ht];exact run_bytesToString w b 0 c [] (by simp[loadCells,loadCellsFrom])
  .obtain⟨b,rfl,Mh,hc⟩:=hA bP;let f:Ab->Int:=λe=>match e with|[.int _ n]=>n|_=>0
   have hcell:=run_convert_bytes_arg (P:=P) w s e I he b.block b.off es.length c (es.map f) (by simp) (λi hi=>by obtain⟨n,hn⟩:=hb es[i] (by simp);obtain⟨u,hu,E⟩:=hc i 0 (.int .u8 n) (by simp[cellAt,hi,hn]);cases E;grind) t ht
   have xC:(⟨b.block,b.off,none⟩:Addr)=b:=by cases b;simp_all
   rw[xC]at hcell;rw[hcell];congr 2;apply ByteArray.ext;apply Array.ext';rw[strOfNums_data];simp only[Ei];refine KU λe he=>?_;grind
 simp_all[execOp,Sem.run_bind,Result.andThen_ok]
end
end Go.Nk
set_option linter.all false
namespace Go.Nk
open Go.RowKit
section
variable {P:Program} {K F F':Nat->Prop} {σ Be:Nat->BI} {B cU:List ae} {w w':World}
theorem GQ.lt{g z:Nat}{es:List Ab}{An:J->Value->Prop}(h:GQ w g z es An):g<w.heap.size:=by obtain⟨c,ty,hh,_⟩:=h;grind
theorem Tb{w w':World}{g:Nat}(h:w'.heap[g]? =w.heap[g]?):WY w' g=WY w g:=by unfold WY;rw[h]
theorem bH.yj [Inhabited Env](I:bH K F σ B w){h:Nat}{o:ae}(ho:B[h]? =some o)(Z:o.k≠ .dead){g:Nat}(hg:σ h=some g):g<w.heap.size:=by
 have:=I.obj h o ho;unfold gv at this;split at this
 .simp_all
 .rcases this with⟨_,h0⟩|⟨g',oT,_,_,hb⟩
  .simp_all
  .rw[hg]at oT;injection oT with e;subst e;exact hb.lt
 .rcases this with⟨_,h0⟩|⟨g',oT,_,hb⟩
  .simp_all
  .rw[hg]at oT;injection oT with e;subst e;exact hb.lt
 .obtain⟨g',oT,_,_,hb⟩:=this;rw[hg]at oT;injection oT with e;subst e;exact hb.lt
 .obtain⟨_,g',oT,_,_,hb⟩:=this;rw[hg]at oT;injection oT with e;subst e;exact hb.lt
theorem bH.xR [Inhabited Env](I:bH K F σ B w){h:Nat}{o:ae}(ho:B[h]? =some o)(Z:o.k.mut){g:Nat}(hg:σ h=some g):¬F g/\¬K g:=by have:=I.obj h o ho;unfold gv at this;rcases Z with Z|Z|⟨es,Z⟩<;>rw[Z]at this<;>dsimp only at this;all_goals simp_all
theorem bH.xU [Inhabited Env](I:bH K F σ B w){h:Nat}{o:ae}(ho:B[h]? =some o)(Z:o.k= .A6){g:Nat}(hg:σ h=some g):F g:=by have:=I.obj h o ho;simp_all[gv]
theorem aqn(k:Kd)(Z:k≠ .dead)(hm:¬k.mut):k= .A6:=by
 cases k
 .exact absurd (.inl rfl) hm
 .exact absurd (.inr (.inl rfl)) hm
 .rfl
 .simp_all
 .exact absurd (.inr (.inr ⟨_,rfl⟩)) hm
theorem mG{k:Kd}(h:k= .loc):k.mut:= .inr (.inl h)
theorem Td{k:Kd}(h:k.mut):k≠ .dead:=by rcases h with e|e|⟨_,e⟩<;>rw[e]<;>simp
structure FN(K F:Nat->Prop)(σ:Nat->BI)(B:List ae)(w:World)(h:Nat)(o:ae)(F':Nat->Prop)(Be:Nat->BI)(cU:List ae)(w':World):Prop where
 os:w'.os=w.os
 tape:w'.tape=w.tape
 output:w'.output=w.output
 size:w.heap.size<=w'.heap.size
 hF:∀b,F b->F' b
 newF:∀b,F' b->F b\/w.heap.size<=b
 OS:∀b,F' b->b<w'.heap.size
 heap:∀b,b<w.heap.size->(∀oh,B[h]? =some oh->oh.k.mut->σ h≠some b)->w'.heap[b]? =w.heap[b]?
 Dk:(h<B.length/\cU=B.set h o)\/(h=B.length/\cU=B++[o])
 sig:∀h',h'≠h->Be h'=σ h'
 z7:∀g,Be h=some g->(σ h=some g/\∃oh,B[h]? =some oh/\oh.k.mut)\/w.heap.size<=g
 grow:∀oh,B[h]? =some oh->(oh.k.mut\/(oh.es=[]/\o.es≠[]))/\oh.es.length<=o.es.length/\(o.es.length=oh.es.length->o.k≠ .dead->o.z=oh.z/\Be h=σ h/\∀g,σ h=some g->WY w' g=WY w g)
theorem FN.get{h:Nat}{o:ae}(c:FN K F σ B w h o F' Be cU w'):cU[h]? =some o:=by rcases c.Dk with⟨hl,rfl⟩|⟨rfl,rfl⟩;all_goals simp_all
theorem FN.vf{h:Nat}{o:ae}(c:FN K F σ B w h o F' Be cU w'){h':Nat}(bP:h'≠h):cU[h']? =B[h']? :=by rcases c.Dk with⟨hl,rfl⟩|⟨rfl,rfl⟩;all_goals grind
theorem FN.DW [Inhabited Env]{h:Nat}{o:ae}(c:FN K F σ B w h o F' Be cU w')(I:bH K F σ B w){b:Nat}(hb:F b\/K b):w'.heap[b]? =w.heap[b]? :=by refine c.heap b (hb.elim (I.fb b) (I.kb b)) λoh tR hm e=>?_;obtain⟨h1,h2⟩:=I.xR tR hm e;simp_all
theorem FN.xG [Inhabited Env]{h:Nat}{o:ae}(c:FN K F σ B w h o F' Be cU w')(I:bH K F σ B w){h':Nat}{o':ae}(bP:h'≠h)(jP:B[h']? =some o')(Z:o'.k≠ .dead){g:Nat}(hg:σ h'=some g):
 w'.heap[g]? =w.heap[g]? :=by
 by_cases hm:o'.k.mut
 .exact c.heap g (I.yj jP Z hg) λoh tR Xg e=>bP (I.inj _ _ _ _ _ jP hm tR Xg hg e)
 .exact c.DW I (.inl (I.xU jP (aqn _ Z hm) hg))
theorem FN.hm [Inhabited Env]{h:Nat}{o:ae}(c:FN K F σ B w h o F' Be cU w')(I:bH K F σ B w):HM F σ B w F' Be cU w':=by
 refine⟨c.hF,λb hb=>c.DW I (.inl hb),?_,λh' o' jP=>?_⟩
 .rcases c.Dk with⟨hl,rfl⟩|⟨rfl,rfl⟩<;>simp
 .by_cases bP:h'=h
  .subst bP;obtain⟨hm,g1,g2⟩:=c.grow o' jP;refine⟨o,c.get,g1,λZ he=>⟨?_,g2 he Z⟩⟩;rcases hm with e|⟨Y,e2⟩
   .exact Td e
   .rw[Y]at he;exact absurd (ME he) e2
  .refine⟨o',(c.vf bP).trans jP,By _,λZ _=>⟨Z,rfl,c.sig _ bP,λg hg=>Tb (c.xG I bP jP Z hg)⟩⟩
theorem FN.D2 [Inhabited Env]{h:Nat}{o:ae}(c:FN K F σ B w h o F' Be cU w')(I:bH K F σ B w)(ho:gv K F' Be cU w' h o):bH K F' Be cU w':=by
 have hm:=c.hm I;refine⟨λh' o' jP=>?_,λh1 h2 o1 o2 g Y m1 e2 m2 s1 s2=>?_,c.OS,λb hb=>Ef (I.kb b hb) c.size,I.nH.mono hm.ck hm.mono⟩
 .by_cases bP:h'=h
  .subst bP;rw[c.get]at jP;simp_all
  .rw[c.vf bP]at jP;have old:=I.obj _ _ jP;have hk:=λ(Z:o'.k≠ .dead) (g:Nat) (hg:σ h'=some g)=>c.xG I bP jP Z hg;have nF:∀g,g<w.heap.size->¬F g->¬F' g:=λg hl hn hF=>(c.newF g hF).elim hn (λh=>by omega);unfold gv at old|-;split
   .trivial
   .rename_i nC;rw[nC]at old;dsimp only at old;rcases old with⟨h0,h1⟩|⟨g,hg,h1,h2,hb⟩
    .exact .inl ⟨h0,(c.sig _ bP).trans h1⟩
    .exact .inr ⟨g,(c.sig _ bP).trans hg,nF g hb.lt h1,h2,hb.mono (hk (by simp_all) g hg) λd v h=>⟨h.1.mono hm.mono hm.ck,h.2⟩⟩
   .rename_i nC;rw[nC]at old;dsimp only at old;rcases old with⟨h0,h1⟩|⟨g,hg,h1,hb⟩
    .exact .inl ⟨h0,(c.sig _ bP).trans h1⟩
    .exact .inr ⟨g,(c.sig _ bP).trans hg,c.hF _ h1,hb.mono (hk (by simp_all) g hg) λd v h=>⟨h.1.mono hm.mono hm.ck,h.2⟩⟩
   next nC=>rw[nC]at old;dsimp only at old;obtain⟨g,hg,h1,h2,hb⟩:=old;exact⟨g,(c.sig _ bP).trans hg,nF g hb.lt h1,h2,hb.mono (hk (by simp_all) g hg) λd v h=>h.mono hm⟩
   next nC=>rw[nC]at old;dsimp only at old;obtain⟨h0,g,hg,h1,h2,hb⟩:=old;exact⟨h0,g,(c.sig _ bP).trans hg,nF g hb.lt h1,h2,hb.mono (hk (by simp_all) g hg) λd v h=>⟨h.1.mono hm.mono hm.ck,h.2⟩⟩
 .by_cases n1:h1=h
  .by_cases n2:h2=h
   .rw[n1,n2]
   .exfalso;subst n1;rw[c.vf n2]at e2;rw[c.sig _ n2]at s2;have Xh:=I.yj e2 (Td m2) s2;rcases c.z7 g s1 with⟨sg,oh,tR,Xg⟩|Xi
    .exact n2 (I.inj _ _ _ _ _ e2 m2 tR Xg s2 sg)
    .omega
  .by_cases n2:h2=h
   .exfalso;subst n2;rw[c.vf n1]at Y;rw[c.sig _ n1]at s1;have XI:=I.yj Y (Td m1) s1;rcases c.z7 g s2 with⟨sg,oh,tR,Xg⟩|Xi
    .exact n1 (I.inj _ _ _ _ _ Y m1 tR Xg s1 sg)
    .omega
   .rw[c.vf n1]at Y;rw[c.vf n2]at e2;rw[c.sig _ n1]at s1;rw[c.sig _ n2]at s2;exact I.inj _ _ _ _ _ Y m1 e2 m2 s1 s2
theorem FN.vb [Inhabited Env]{h:Nat}{o:ae}(c:FN K F σ B w h o F' Be cU w')(I:bH K F σ B w):jd K F w F' w':=
 ⟨c.os,c.tape,c.output,c.size,λb hb=>c.DW I (.inr hb),λb hb=>c.DW I (.inl hb),c.hF,λb hb=>(c.newF b hb).imp id λh hk=>by have:=I.kb b hk;omega⟩
theorem bH.ext [Inhabited Env](I:bH K F σ B w)(os:w'.os=w.os)(tape:w'.tape=w.tape)(output:w'.output=w.output)(size:w.heap.size<=w'.heap.size)(heap:∀b,b<w.heap.size->w'.heap[b]? =w.heap[b]?)
 (hF:∀b,F b->F' b) (newF:∀b,F' b->F b\/w.heap.size<=b) (OS:∀b,F' b->b<w'.heap.size):
 bH K F' σ B w'/\jd K F w F' w'/\HM F σ B w F' σ B w':=by
 have hm:HM F σ B w F' σ B w':=⟨hF,λb hb=>heap b (I.fb b hb),By _,λh o ho=>⟨o,ho,By _,λZ _=>⟨Z,rfl,rfl,λg hg=>Tb (heap g (I.yj ho Z hg))⟩⟩⟩;refine⟨⟨λh o ho=>?_,I.inj,OS,λb hb=>Ef (I.kb b hb) size,I.nH.mono hm.ck hm.mono⟩,⟨os,tape,output,size,λb hb=>heap b (I.kb b hb),λb hb=>heap b (I.fb b hb),hF,λb hb=>(newF b hb).imp id λh hk=>by have:=I.kb b hk;omega⟩,hm⟩;have old:=I.obj _ _ ho;have nF:∀g,g<w.heap.size->¬F g->¬F' g:=λg hl hn hF=>(newF g hF).elim hn (λh=>by omega);unfold gv at old|-;split
 .trivial
 .rename_i nC;rw[nC]at old;dsimp only at old;rcases old with⟨h0,h1⟩|⟨g,hg,h1,h2,hb⟩
  .simp_all
  .exact .inr ⟨g,hg,nF g hb.lt h1,h2,hb.mono (heap g hb.lt) λd v h=>⟨h.1.mono hm.mono hm.ck,h.2⟩⟩
 .rename_i nC;rw[nC]at old;dsimp only at old;rcases old with⟨h0,h1⟩|⟨g,hg,h1,hb⟩
  .simp_all
  .exact .inr ⟨g,hg,hF _ h1,hb.mono (heap g hb.lt) λd v h=>⟨h.1.mono hm.mono hm.ck,h.2⟩⟩
 next nC=>rw[nC]at old;dsimp only at old;obtain⟨g,hg,h1,h2,hb⟩:=old;exact⟨g,hg,nF g hb.lt h1,h2,hb.mono (heap g hb.lt) λd v h=>h.mono hm⟩
 next nC=>rw[nC]at old;dsimp only at old;obtain⟨h0,g,hg,h1,h2,hb⟩:=old;exact⟨h0,g,hg,nF g hb.lt h1,h2,hb.mono (heap g hb.lt) λd v h=>⟨h.1.mono hm.mono hm.ck,h.2⟩⟩
theorem bH.freeze [Inhabited Env](I:bH K F σ B w){h:Nat}{o:ae}(ho:B[h]? =some o)(hk:o.k= .aV):
 bH K (λb=>F b\/σ h=some b) σ (B.set h {o with k:= .A6}) w/\jd K F w (λb=>F b\/σ h=some b) w/\HM F σ B w (λb=>F b\/σ h=some b) σ (B.set h {o with k:= .A6}) w:=by
 have hl:h<B.length:=by grind
 have D5:o.k≠ .dead:=by rw[hk];simp
 have xa:∀h',h'≠h->(B.set h {o with k:= .A6})[h']? =B[h']? :=λh' bP=>by grind
 have hm:HM F σ B w (λb=>F b\/σ h=some b) σ (B.set h {o with k:= .A6}) w:=by refine⟨λb hb=> .inl hb,λb hb=>rfl,by simp,λh' o' jP=>?_⟩;grind
 refine⟨⟨λh' o' jP=>?_,λh1 h2 o1 o2 g Y m1 e2 m2 s1 s2=>?_,λb hb=>hb.elim (I.fb b) λe=>I.yj ho D5 e,I.kb,I.nH.mono hm.ck hm.mono⟩,⟨rfl,rfl,rfl,By _,λ_ _=>rfl,λ_ _=>rfl,λb hb=> .inl hb,λb hb=>hb.imp id λe=>(I.xR ho (.inl hk) e).2⟩,hm⟩
 .by_cases bP:h'=h
  .subst bP;have e:o'={o with k:= .A6}:=by simp_all
   subst e;have old:=I.obj _ _ ho;unfold gv at old|-;rw[hk]at old;dsimp only at old|-;rcases old with h0|⟨g,hg,h1,h2,hb⟩
   .exact .inl h0
   .exact .inr ⟨g,hg,.inr hg,hb.mono rfl λd v h=>⟨h.1.mono hm.mono hm.ck,h.2⟩⟩
  .rw[xa _ bP]at jP;have old:=I.obj _ _ jP;have nF:∀(wO:o'.k.mut) (g:Nat),σ h'=some g->¬F g->¬(F g\/σ h=some g):=λwO g hg hn hF=>hF.elim hn λe=>bP (I.inj _ _ _ _ _ jP wO ho (.inl hk) hg e);unfold gv at old|-;split
   .trivial
   .rename_i nC;rw[nC]at old;dsimp only at old;rcases old with⟨h0,h1⟩|⟨g,hg,h1,h2,hb⟩
    .simp_all
    .exact .inr ⟨g,hg,nF (.inl nC) g hg h1,h2,hb.mono rfl λd v h=>⟨h.1.mono hm.mono hm.ck,h.2⟩⟩
   .rename_i nC;rw[nC]at old;dsimp only at old;rcases old with⟨h0,h1⟩|⟨g,hg,h1,hb⟩
    .simp_all
    .exact .inr ⟨g,hg,.inl h1,hb.mono rfl λd v h=>⟨h.1.mono hm.mono hm.ck,h.2⟩⟩
   next nC=>rw[nC]at old;dsimp only at old;obtain⟨g,hg,h1,h2,hb⟩:=old;exact⟨g,hg,nF (.inr (.inl nC)) g hg h1,h2,hb.mono rfl λd v h=>h.mono hm⟩
   next nC=>rw[nC]at old;dsimp only at old;obtain⟨h0,g,hg,h1,h2,hb⟩:=old;exact⟨h0,g,hg,nF (.inr (.inr ⟨_,nC⟩)) g hg h1,h2,hb.mono rfl λd v h=>⟨h.1.mono hm.mono hm.ck,h.2⟩⟩
 .have A6:∀hh oo,(B.set h {o with k:= .A6})[hh]? =some oo->oo.k.mut->hh≠h:=by
   intro hh oo e m ee;subst ee;have:oo={o with k:= .A6}:=by simp_all
   subst this;rcases m with m|m|⟨_,m⟩<;>cases m
  have n1:=A6 _ _ Y m1;have n2:=A6 _ _ e2 m2;rw[xa _ n1]at Y;rw[xa _ n2]at e2;exact I.inj _ _ _ _ _ Y m1 e2 m2 s1 s2
end
end Go.Nk

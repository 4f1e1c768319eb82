/- Programs: on what equations hang, what is late; plain equations; their order. -/
import Derived.Lib.ItoaNum
import Derived.Test.YtldnkkkooabaeaaGreatStA
import Derived.Test.YtldnkkkooabaeaaGreatVlA
set_option linter.all false
set_option maxRecDepth 20000
namespace Go.Proofs.YtldnkkkooabaeaaGreat
open Go.Nk
mutual
def cq:Ex->BS
 | .mk k _ s _ _ l=>(if k=3\/k=11\/k=12 then [s]else [])++(if k=10 then []else nq (k==8) l)
def nq:Bool->List Ex->BS
 |_,[]=>[]
 |b,x::l=>cq x++(if b then []else nq false l)
end
theorem azc:∀e:Ex,cq e=(if e.kind=3\/e.kind=11\/e.kind=12 then [e.name]else [])++(if e.kind=10 then []else nq (e.kind==8) e.ar)
 | .mk .. =>by rw[cq];rfl
def yc(n:kY)(x:xY):BS:=cq x.e++(if x.names=[]then []else((mj n (x.names.getD 0 [])).getD []).map (·.on))
def iH(pl:List (BS×Bool))(s:B3):Bool:=pl.any λx=> !x.2&&x.1.any (·==s)
def tW(I:List BS)(pl:List (BS×Bool))(i:Nat):Bool:=(I.getD i []).all (λs=> !iH pl s)&& !(pl.getD i ([],true)).2
def Rz(I:List BS)(pl:List (BS×Bool)):BI:=(List.range I.length).find? (tW I pl)
def place(pl:List (BS×Bool))(i:Nat):List (BS×Bool):=pl.set i ((pl.getD i ([],true)).1,true)
def gM(I:List BS):Nat->List (BS×Bool)->List Nat×Bool
 |0,_=>([],true)
 |k+1,pl=>match Rz I pl with
  |none=>([],false)
  |some i=>(i::(gM I k (place pl i)).1,(gM I k (place pl i)).2)
def yd(n:kY):List Nat×Bool:=gM (n.eqs.map (yc n)) n.eqs.length (n.eqs.map λx=>(x.names,false))
def Mk(i:Nat)(n:kY):L6:=
 if(yd n).2 then fk else match (List.range n.eqs.length).find? (λk=> !(yd n).1.any (·==k))with
  |some k=>(i,k,9)
  |none=>fk
def mi(p:fc):L6:=if ke p≠fk then ke p else bk Mk 0 p.nodes
mutual
def nu:Ex->Bool×Bool
 | .mk k _ _ _ _ l=>
   if k=8\/k=13 then(false,(fX l).2&& !(fX l).1)
   else if k=9 then(false,(fX l).2&& !(if 0<l.length then v5 l else(fX l).1))
   else if k=10 then((fX l).2&& !(fX l).1,(fX l).2&& !(fX l).1)
   else((fX l).2&&(fX l).1,(fX l).2)
def fX:List Ex->Bool×Bool
 |[]=>(false,true)
 |x::l=>((nu x).1||(fX l).1,(nu x).2&&(fX l).2)
def v5:List Ex->Bool
 |[]=>false
 |x::_=>(nu x).1
end
theorem ao5:∀e:Ex,nu e=
 if e.kind=8\/e.kind=13 then(false,(fX e.ar).2&& !(fX e.ar).1)
 else if e.kind=9 then(false,(fX e.ar).2&& !(if 0<e.ar.length then v5 e.ar else(fX e.ar).1))
 else if e.kind=10 then((fX e.ar).2&& !(fX e.ar).1,(fX e.ar).2&& !(fX e.ar).1)
 else((fX e.ar).2&&(fX e.ar).1,(fX e.ar).2)
 | .mk .. =>by rw[nu];rfl
def Ml(i:Nat)(n:kY):L6:=bk (λk (x:xY)=>if(nu x.e).1|| !(nu x.e).2 then((i:Int),(k:Int),10)else fk) 0 n.eqs
def pq(p:fc):L6:=if mi p≠fk then mi p else bk Ml 0 p.nodes
abbrev yI:=B3×Int
structure Em where
 R:Int
 vs:List Va
 qs:List Pl
def cJ(first:B3)(k:Int):B3:=first++[46]++Lib.itoa k
def lT(first:B3)(q:Pl)(names:BS)(t:Ty)(on:List gT)(s:Em):B3×Em:=
 if names=[]then(cJ first (s.R+1),⟨s.R+1,s.vs++[⟨cJ first (s.R+1),t.k,t.e,t.n,on⟩],s.qs++[{q with names:=[cJ first (s.R+1)],on:=on}]⟩)
 else(names.getD 0 [],⟨s.R,s.vs,s.qs++[{q with names:=names,on:=on}]⟩)
def vt(p:fc)(c:B3):Int:=(gH p.en c).2.1
def oq(p:fc)(e:Ex)(on:List gT):List (Option (List gT)):=
 if e.kind=8 then none::(e.ar.drop 1).map λ_=>some on
 else if e.kind=11 then e.ar.map λ_=>some on.dropLast
 else if e.kind=12 then e.arms.map λc=>some (on++[(e.name,vt p c)])
 else e.ar.map λ_=>some on
def O2(p:fc)(e:Ex):yI:=
 if e.kind=1\/e.kind=2 then([],e.n)else if e.kind=3 then(e.name,0)else([],vt p e.name)
def Bu(k:Int)(BZ:List yI):Pl:=⟨k,[],0,BZ,[],0,false,[],0,[]⟩
def y8(p:fc)(node:Nat)(first:B3)(e:Ex)(BZ:List yI)(R:Int):Pl:=
 if e.kind=5 then{Bu 2 BZ with op:=e.op}
 else if e.kind=6 then{Bu 3 BZ with op:=e.op}
 else if e.kind=7 then Bu 4 BZ
 else if e.kind=14 then Bu 8 BZ
 else if e.kind=15 then Bu 9 BZ
 else if e.kind=16 then Bu 10 BZ
 else if e.kind=13 then(if e.n=1 then{Bu 7 (BZ.take (e.ar.length-1))with node:=jx p e.name,reset:=true,ev:=(BZ.getD (e.ar.length-1) ([],0)).1,en:=(BZ.getD (e.ar.length-1) ([],0)).2}
  else{Bu 7 BZ with node:=jx p e.name})
 else if e.kind=8 then{Bu 5 (BZ.drop 1)with init:=((dG p.en (e.ar.getD 0 default)).map (·.1)).getD []}
 else if e.kind=10 then{Bu 5 BZ with init:=zeroV ((rF p node e).getD ⟨0,0,0⟩)}
 else if e.kind=9 then Bu 4 ((cJ first R,0)::BZ)
 else if e.kind=11 then Bu 1 BZ
 else if e.kind=12 then Bu 6 ((e.name,0)::BZ)
 else Bu 1 [O2 p e]
def kz(first:B3)(e:Ex)(on:List gT)(st:Em):Em:=
 if e.kind=9 then(lT first {Bu 5 [([],0)]with init:=[1]} [] ⟨2,0,0⟩ on st).2 else st
mutual
def iR(p:fc)(node:Nat)(first:B3):Ex->List gT->Em->yI×Em
 | .mk k n s o a l,on,st=>
   if 1<=k/\k<=4 then(O2 p (.mk k n s o a l),st)
   else
    let r:=bZ p node first l (oq p (.mk k n s o a l) on) (kz first (.mk k n s o a l) on st)
    let q:=lT first (y8 p node first (.mk k n s o a l) r.1 (kz first (.mk k n s o a l) on st).R) [] ((rF p node (.mk k n s o a l)).getD ⟨0,0,0⟩) on r.2
    ((q.1,0),q.2)
def bZ(p:fc)(node:Nat)(first:B3):List Ex->List (Option (List gT))->Em->List yI×Em
 |[],_,st=>([],st)
 |_::_,[],st=>([],st)
 |_::l,none::r,st=>
  let z:=bZ p node first l r st
  (([],0)::z.1,z.2)
 |x::l,some on::r,st=>
  let y:=iR p node first x on st
  let z:=bZ p node first l r y.2
  (y.1::z.1,z.2)
end
def ng(p:fc)(node:Nat)(first:B3)(e:Ex)(on:List gT)(st:Em):Pl×Em:=
 let r:=bZ p node first e.ar (oq p e on) (kz first e on st)
 (y8 p node first e r.1 (kz first e on st).R,r.2)
def fS(p:fc)(node:Nat)(first:B3)(e:Ex)(names:BS)(on:List gT)(st:Em):B3×Em:=
 lT first (ng p node first e on st).1 names ((rF p node e).getD ⟨0,0,0⟩) on (ng p node first e on st).2
theorem tu(p:fc)(node:Nat)(first:B3):∀(e:Ex) (on:List gT) (st:Em),iR p node first e on st=
 if 1<=e.kind/\e.kind<=4 then(O2 p e,st)else(((fS p node first e [] on st).1,0),(fS p node first e [] on st).2)
 | .mk ..,on,st=>by rw[iR];rfl
def varOf(p:fc)(i:Nat)(d:tN):Va:=⟨d.name,d.ty.k,d.ty.e,d.ty.n,(dU p i d.name).getD []⟩
def xZ(p:fc)(i:Nat)(st:Em)(x:xY):Em:=
 (fS p i (x.names.getD 0 []) x.e x.names ((dU p i (x.names.getD 0 [])).getD []) ⟨0,st.vs,st.qs⟩).2
def O9(p:fc)(i:Nat)(n:kY):Em:=n.eqs.foldl (xZ p i) ⟨0,n.vars.map (varOf p i),[]⟩
def gQ(p:fc)(i:Nat)(n:kY):Fl:=⟨n.name,n.ins.map (varOf p i),n.outs.map (varOf p i),(O9 p i n).vs,(O9 p i n).qs⟩
def m5(p:fc):List Fl:=p.nodes.mapIdx (gQ p)
def wX(p:fc):Bool:=decide (pq p=fk)
def gA(q:Pl):BS:=((if q.kind=5 then []else q.args.map (·.1))++(if q.reset then [q.ev]else [])++q.on.map (·.1)).filter (· !=[])
def fA(f:Fl):List Nat×Bool:=gM (f.eqs.map gA) f.eqs.length (f.eqs.map λq=>(q.names,false))
def lB(f:Fl):Fl:={f with eqs:=(fA f).1.map λi=>f.eqs.getD i default}
def x7(p:fc):Bool:=wX p&&(m5 p).all λf=>(fA f).2
def eK(p:fc):cT:=⟨p.en,(m5 p).map lB⟩
end Go.Proofs.YtldnkkkooabaeaaGreat

/- Programs: on what equations hang, what is late; plain equations; their order. -/
import Derived.Lib.ItoaNum
import Derived.Test.YtcokmopocppmiaaGreatStA
import Derived.Test.YtcokmopocppmiaaGreatVlA
set_option linter.all false
set_option maxRecDepth 20000
namespace Go.Proofs.YtcokmopocppmiaaGreat
open Go.Nk
mutual
def bQ:Ex->List (List UInt8)
 | .mk k _ s _ _ l=>(if k=3\/k=11\/k=12 then [s]else [])++(if k=10 then []else lZ (k==8) l)
def lZ:Bool->List Ex->List (List UInt8)
 |_,[]=>[]
 |b,x::l=>bQ x++(if b then []else lZ false l)
end
theorem SN:∀e:Ex,bQ e=(if e.kind=3\/e.kind=11\/e.kind=12 then [e.name]else [])++(if e.kind=10 then []else lZ (e.kind==8) e.ar)
 | .mk .. =>by rw[bQ];rfl
def wM(n:kZ)(x:wq):List (List UInt8):=bQ x.e++(if x.names=[]then []else((mQ n (x.names.getD 0 [])).getD []).map (·.on))
def gK(pl:List (List (List UInt8)×Bool))(s:List UInt8):Bool:=pl.any λx=> !x.2&&x.1.any (·==s)
def rS(hs:List (List (List UInt8)))(pl:List (List (List UInt8)×Bool))(i:Nat):Bool:=(hs.getD i []).all (λs=> !gK pl s)&& !(pl.getD i ([],true)).2
def On(hs:List (List (List UInt8)))(pl:List (List (List UInt8)×Bool)):Option Nat:=(List.range hs.length).find? (rS hs pl)
def place(pl:List (List (List UInt8)×Bool))(i:Nat):List (List (List UInt8)×Bool):=pl.set i ((pl.getD i ([],true)).1,true)
def fH(hs:List (List (List UInt8))):Nat->List (List (List UInt8)×Bool)->List Nat×Bool
 |0,_=>([],true)
 |k+1,pl=>match On hs pl with
  |none=>([],false)
  |some i=>(i::(fH hs k (place pl i)).1,(fH hs k (place pl i)).2)
def wN(n:kZ):List Nat×Bool:=fH (n.eqs.map (wM n)) n.eqs.length (n.eqs.map λx=>(x.names,false))
def J4(i:Nat)(n:kZ):Lp:=
 if(wN n).2 then eu else match (List.range n.eqs.length).find? (λk=> !(wN n).1.any (·==k))with
  |some k=>(i,k,9)
  |none=>eu
def kS(p:cY):Lp:=if iU p≠eu then iU p else aX J4 0 p.nodes
mutual
def l9:Ex->Bool×Bool
 | .mk k _ _ _ _ l=>
   if k=8\/k=13 then(false,(fo l).2&& !(fo l).1)
   else if k=9 then(false,(fo l).2&& !(if 0<l.length then aep l else(fo l).1))
   else if k=10 then((fo l).2&& !(fo l).1,(fo l).2&& !(fo l).1)
   else((fo l).2&&(fo l).1,(fo l).2)
def fo:List Ex->Bool×Bool
 |[]=>(false,true)
 |x::l=>((l9 x).1||(fo l).1,(l9 x).2&&(fo l).2)
def aep:List Ex->Bool
 |[]=>false
 |x::_=>(l9 x).1
end
theorem akg:∀e:Ex,l9 e=
 if e.kind=8\/e.kind=13 then(false,(fo e.ar).2&& !(fo e.ar).1)
 else if e.kind=9 then(false,(fo e.ar).2&& !(if 0<e.ar.length then aep e.ar else(fo e.ar).1))
 else if e.kind=10 then((fo e.ar).2&& !(fo e.ar).1,(fo e.ar).2&& !(fo e.ar).1)
 else((fo e.ar).2&&(fo e.ar).1,(fo e.ar).2)
 | .mk .. =>by rw[l9];rfl
def J5(i:Nat)(n:kZ):Lp:=aX (λk (x:wq)=>if(l9 x.e).1|| !(l9 x.e).2 then((i:Int),(k:Int),10)else eu) 0 n.eqs
def nJ(p:cY):Lp:=if kS p≠eu then kS p else aX J5 0 p.nodes
abbrev xx:=List UInt8×Int
structure Em where
 fr:Int
 vs:List Va
 qs:List Pl
def cj(first:List UInt8)(k:Int):List UInt8:=first++[46]++Lib.itoa k
def kC(first:List UInt8)(q:Pl)(names:List (List UInt8))(t:Ty)(on:List dY)(s:Em):List UInt8×Em:=
 if names=[]then(cj first (s.fr+1),⟨s.fr+1,s.vs++[⟨cj first (s.fr+1),t.k,t.e,t.n,on⟩],s.qs++[{q with names:=[cj first (s.fr+1)],on:=on}]⟩)
 else(names.getD 0 [],⟨s.fr,s.vs,s.qs++[{q with names:=names,on:=on}]⟩)
def tQ(p:cY)(c:List UInt8):Int:=(fA p.en c).2.1
def mO(p:cY)(e:Ex)(on:List dY):List (Option (List dY)):=
 if e.kind=8 then none::(e.ar.drop 1).map λ_=>some on
 else if e.kind=11 then e.ar.map λ_=>some on.dropLast
 else if e.kind=12 then e.arms.map λc=>some (on++[(e.name,tQ p c)])
 else e.ar.map λ_=>some on
def Mt(p:cY)(e:Ex):xx:=
 if e.kind=1\/e.kind=2 then([],e.n)else if e.kind=3 then(e.name,0)else([],tQ p e.name)
def zR(k:Int)(ats:List xx):Pl:=⟨k,[],0,ats,[],0,false,[],0,[]⟩
def xy(p:cY)(node:Nat)(first:List UInt8)(e:Ex)(ats:List xx)(fr:Int):Pl:=
 if e.kind=5 then{zR 2 ats with op:=e.op}
 else if e.kind=6 then{zR 3 ats with op:=e.op}
 else if e.kind=7 then zR 4 ats
 else if e.kind=14 then zR 8 ats
 else if e.kind=15 then zR 9 ats
 else if e.kind=16 then zR 10 ats
 else if e.kind=13 then(if e.n=1 then{zR 7 (ats.take (e.ar.length-1))with node:=iR p e.name,reset:=true,ev:=(ats.getD (e.ar.length-1) ([],0)).1,en:=(ats.getD (e.ar.length-1) ([],0)).2}
  else{zR 7 ats with node:=iR p e.name})
 else if e.kind=8 then{zR 5 (ats.drop 1)with init:=((cC p.en (e.ar.getD 0 default)).map (·.1)).getD []}
 else if e.kind=10 then{zR 5 ats with init:=zeroV ((oV p node e).getD ⟨0,0,0⟩)}
 else if e.kind=9 then zR 4 ((cj first fr,0)::ats)
 else if e.kind=11 then zR 1 ats
 else if e.kind=12 then zR 6 ((e.name,0)::ats)
 else zR 1 [Mt p e]
def jA(first:List UInt8)(e:Ex)(on:List dY)(st:Em):Em:=
 if e.kind=9 then(kC first {zR 5 [([],0)]with init:=[1]} [] ⟨2,0,0⟩ on st).2 else st
mutual
def gU(p:cY)(node:Nat)(first:List UInt8):Ex->List dY->Em->xx×Em
 | .mk k n s o a l,on,st=>
   if 1<=k/\k<=4 then(Mt p (.mk k n s o a l),st)
   else
    let r:=bM p node first l (mO p (.mk k n s o a l) on) (jA first (.mk k n s o a l) on st)
    let q:=kC first (xy p node first (.mk k n s o a l) r.1 (jA first (.mk k n s o a l) on st).fr) [] ((oV p node (.mk k n s o a l)).getD ⟨0,0,0⟩) on r.2
    ((q.1,0),q.2)
def bM(p:cY)(node:Nat)(first:List UInt8):List Ex->List (Option (List dY))->Em->List xx×Em
 |[],_,st=>([],st)
 |_::_,[],st=>([],st)
 |_::l,none::r,st=>
  let z:=bM p node first l r st
  (([],0)::z.1,z.2)
 |x::l,some on::r,st=>
  let y:=gU p node first x on st
  let z:=bM p node first l r y.2
  (y.1::z.1,z.2)
end
def lT(p:cY)(node:Nat)(first:List UInt8)(e:Ex)(on:List dY)(st:Em):Pl×Em:=
 let r:=bM p node first e.ar (mO p e on) (jA first e on st)
 (xy p node first e r.1 (jA first e on st).fr,r.2)
def eX(p:cY)(node:Nat)(first:List UInt8)(e:Ex)(names:List (List UInt8))(on:List dY)(st:Em):List UInt8×Em:=
 kC first (lT p node first e on st).1 names ((oV p node e).getD ⟨0,0,0⟩) on (lT p node first e on st).2
theorem qW(p)(node)(first):∀(e:Ex) (on:List dY) (st:Em),gU p node first e on st=
 if 1<=e.kind/\e.kind<=4 then(Mt p e,st)else(((eX p node first e [] on st).1,0),(eX p node first e [] on st).2)
 | .mk ..,on,st=>by rw[gU];rfl
def varOf(p:cY)(i:Nat)(d:rN):Va:=⟨d.name,d.ty.k,d.ty.e,d.ty.n,(da p i d.name).getD []⟩
def uP(p:cY)(i:Nat)(st:Em)(x:wq):Em:=
 (eX p i (x.names.getD 0 []) x.e x.names ((da p i (x.names.getD 0 [])).getD []) ⟨0,st.vs,st.qs⟩).2
def emN(p:cY)(i:Nat)(n:kZ):Em:=n.eqs.foldl (uP p i) ⟨0,n.vars.map (varOf p i),[]⟩
def fN(p:cY)(i:Nat)(n:kZ):Fl:=⟨n.name,n.ins.map (varOf p i),n.outs.map (varOf p i),(emN p i n).vs,(emN p i n).qs⟩
def lK(p:cY):List Fl:=p.nodes.mapIdx (fN p)
def vm(p:cY):Bool:=decide (nJ p=eu)
def fF(q:Pl):List (List UInt8):=((if q.kind=5 then []else q.args.map (·.1))++(if q.reset then [q.ev]else [])++q.on.map (·.1)).filter (· !=[])
def eH(f:Fl):List Nat×Bool:=fH (f.eqs.map fF) f.eqs.length (f.eqs.map λq=>(q.names,false))
def kf(f:Fl):Fl:={f with eqs:=(eH f).1.map λi=>f.eqs.getD i default}
def wv(p:cY):Bool:=vm p&&(lK p).all λf=>(eH f).2
def dU(p:cY):jw:=⟨p.en,(lK p).map kf⟩
end Go.Proofs.YtcokmopocppmiaaGreat

/- Programs: their cells; by what they are checked. -/
import Derived.Test.YtcokmopocppmiaaGreatArT
import Derived.Test.YtcokmopocppmiaaGreatMsA
set_option linter.all false
set_option maxRecDepth 20000
namespace Go.Proofs.YtcokmopocppmiaaGreat
open Go.Nk
structure rN where
 name:List UInt8
 ty:Ty
 on:List UInt8
 ct:List UInt8
instance:Inhabited rN:=⟨⟨[],⟨0,0,0⟩,[],[]⟩⟩
@[reducible] def fR(d:rN):List DV:=[.str d.name,.int .i64 d.ty.k,.int .i64 d.ty.e,.int .i64 d.ty.n,.str d.on,.str d.ct]
theorem xA:∀x y,fR x=fR y->x=y:=by
 rintro⟨a,⟨b,c,d⟩,e,f⟩ ⟨a',⟨b',c',d'⟩,e',f'⟩ hh
 simp only[fR,List.cons.injEq,DV.str.injEq,DV.int.injEq,true_and,and_true]at hh;obtain⟨rfl,rfl,rfl,rfl,rfl,rfl⟩:=hh;rfl
abbrev arL:rN->DV:=eA fR
theorem an8:rJ arL:=zq xA
abbrev Ya:List rN->DV:=eL fR
theorem Yc:rJ Ya:=Al xA
structure wq where
 names:List (List UInt8)
 e:Ex
instance:Inhabited wq:=⟨⟨[],default⟩⟩
@[reducible] def kO(x:wq):List DV:=[.sl (dI x.names),.int .i64 x.e.kind,.int .i64 x.e.n,.str x.e.name,.int .i64 x.e.op,.sl (dI x.e.arms),.sl (x.e.ar.map cA)]
theorem Yg:∀x y,kO x=kO y->x=y:=by
 rintro⟨a,e⟩ ⟨a',e'⟩ hh
 have h2:cA e=cA e':=by have:=congrArg List.tail hh;rw[ag,ag];simpa only[kO,List.tail_cons]using this
 simp only[kO,List.cons.injEq,DV.sl.injEq]at hh;rw[BR hh.1,yz _ _ h2]
abbrev Mw:wq->DV:=eA kO
theorem Vi:rJ Mw:=zq Yg
structure kZ where
 name:List UInt8
 ins:List rN
 outs:List rN
 vars:List rN
 eqs:List wq
instance:Inhabited kZ:=⟨⟨[],[],[],[],[]⟩⟩
@[reducible] def ef(n:kZ):List DV:=[.str n.name,.sl (n.ins.map fR),.sl (n.outs.map fR),.sl (n.vars.map fR),.sl (n.eqs.map kO)]
theorem GU:∀x y,ef x=ef y->x=y:=by
 rintro⟨a,b,c,d,e⟩ ⟨a',b',c',d',e'⟩ hh
 simp only[ef,List.cons.injEq,DV.str.injEq,DV.sl.injEq,and_true]at hh;obtain⟨rfl,h1,h2,h3,h4⟩:=hh;rw[map_inj xA _ _ h1,map_inj xA _ _ h2,map_inj xA _ _ h3,map_inj Yg _ _ h4]
abbrev sM:kZ->DV:=eA ef
theorem px:rJ sM:=zq GU
structure cY where
 en:List En
 nodes:List kZ
@[reducible] def bT(p:cY):List DV:=[.sl (p.en.map jQ),.sl (p.nodes.map ef)]
theorem akh:∀x y,bT x=bT y->x=y:=by
 rintro⟨a,b⟩ ⟨a',b'⟩ hh
 simp only[bT,List.cons.injEq,DV.sl.injEq,and_true]at hh;rw[map_inj vh _ _ hh.1,map_inj GU _ _ hh.2]
abbrev bj:cY->DV:=eA bT
theorem dp:rJ bj:=zq akh
def dA(n:kZ):List rN:=n.ins++n.outs++n.vars
def wH(l:List En)(d:rN):Bool:=pz d.name&&bq l d.ty&&((d.on==[]&&d.ct==[])||(pz d.on&&Vr d.ct))
def Et(x:wq):Bool:=x.names.all pz&&decide (0<x.names.length)&&mV x.e&&(x.names.length==1||x.e.kind==13)
def nO(l:List En)(n:kZ):Bool:=(dA n).all (wH l)&&(n.ins++n.outs).all (λd=>d.on==[])&&n.eqs.all Et&&pz n.name&&decide (0<n.outs.length)
def manyN(n:kZ):Bool:=decide (6<n.ins.length)||decide (6<n.outs.length)||decide (12<n.vars.length)||decide (18<n.eqs.length)
def Lw(n:kZ):Bool:=ri ((dA n).map (·.name))
def kj(p:cY):Int:=
 if qm p.en≠0 then qm p.en else if p.nodes.length=0 then 5 else if 6<p.nodes.length then 4 else if p.nodes.any manyN then 4
 else if !p.nodes.all (nO p.en)then 1 else if !(p.nodes.all Lw&&ri (p.nodes.map (·.name)))then 6 else 0
def Mp(l:List rN):Bool:=(l.all λd=>decide (d.name.length<=100)&&decide (d.on.length<=100)&&decide (d.ct.length<=100))&&decide (l.length<=20)
def rM(x:wq):Bool:=decide (x.names.length<=20)&&er x.e&&x.names.all λs=>decide (s.length<=100)
def dH(n:kZ):Bool:=Mp n.ins&&Mp n.outs&&Mp n.vars&&decide (n.eqs.length<=30)&&decide (n.name.length<=100)&&n.eqs.all rM
def bx(p:cY):Bool:=ub p.en&&decide (p.nodes.length<=10)&&p.nodes.all dH
def iR(p:cY)(s:List UInt8):Int:=match p.nodes.findIdx? (λn=>n.name==s)with|some k=>k|none=> -1
def eT(n:kZ)(s:List UInt8):Option rN:=(dA n).find? λd=>d.name==s
def MD(n:kZ):Nat->List UInt8->List rN->Option (List rN)
 |0,_,_=>none
 |k+1,s,acc=>match eT n s with
  |none=>none
  |some d=>if d.on=[]then some acc else MD n k d.on (d::acc)
def mQ(n:kZ)(s:List UInt8):Option (List rN):=MD n 13 s []
def nodeAt(p:cY)(i:Nat):kZ:=p.nodes.getD i default
abbrev Lp:=Int×Int×Int
def flt(i k e:Int):Lp:=(i,k,e)
def eu:Lp:=(0,0,0)
def Vo(n:kZ)(s:List UInt8):Bool:=(eT n s).isSome
def my(l:List En)(s:List UInt8):Bool:=(fA l s).2.2
def oy(p:cY)(at_:Nat)(e:Ex):Bool:=
 if(e.kind=3\/e.kind=11\/e.kind=12)/\Vo (nodeAt p at_) e.name=false then false
 else if !e.arms.all (my p.en)then false
 else if e.kind=4 then my p.en e.name
 else if e.kind=13 then decide (0<=iR p e.name)&&decide (iR p e.name<at_)
 else e.kind !=17
def fC(n:kZ)(s:List UInt8)(k:Nat):Int:=(((n.eqs.take k).flatMap (·.names)).filter (·==s)).length
def wJ(n:kZ)(s:List UInt8):Bool:=n.ins.any λd=>d.name==s
def nT(n:kZ)(i:Nat):List (List UInt8)->List (List UInt8)->Int
 |_,[]=>0
 |pre,s::r=>if Vo n s=false then 5 else if wJ n s||decide (0<fC n s i)||pre.any (·==s)then 6 else nT n i (pre++[s]) r
def eqE(p:cY)(at_ i:Nat)(x:wq):Int:=
 if nT (nodeAt p at_) i [] x.names≠0 then nT (nodeAt p at_) i [] x.names else if(ax x.e).all (oy p at_)then 0 else 5
def aX{α:Type}(f:Nat->α->Lp):Nat->List α->Lp
 |_,[]=>eu
 |i,x::r=>if f i x=eu then aX f (i+1) r else f i x
def onE(p:cY)(n:kZ)(d:rN):Bool:=d.on !=[]&&(!Vo n d.on|| !my p.en d.ct)
def vu(p:cY)(at_ i:Nat)(x:wq):Lp:=if eqE p at_ i x=0 then eu else(at_,i,eqE p at_ i x)
def pq(p:cY)(at_:Nat)(n:kZ):Lp:=
 if(dA n).any (onE p n)then(at_,-1,5)
 else if aX (vu p at_) 0 n.eqs≠eu then aX (vu p at_) 0 n.eqs
 else if(n.outs++n.vars).any (λd=>fC n d.name n.eqs.length==0)then(at_,-1,5)else eu
def fX(p:cY):Lp:=if kj p≠0 then(0,-1,kj p)else aX (pq p) 0 p.nodes
def abO(l:List En)(e:Ex):Option (Int×Ty):=
 if e.kind=1 then some (e.n,⟨1,0,0⟩)else if e.kind=2 then some (e.n,⟨2,0,0⟩)
 else if e.kind=5 then some (IntKind.i64.wrap (0-(e.ar.getD 0 default).n),⟨1,0,0⟩)
 else if(fA l e.name).2.2 then some ((fA l e.name).2.1,(fA l e.name).1)else none
def pW(l:List En):Bool->Ty->List Ex->Option (List Int×Ty)
 |_,t,[]=>some ([],t)
 |first,t,x::r=>match abO l x with
  |none=>none
  |some (n,u)=>if first=false/\u≠t then none else(pW l false u r).map λy=>(n::y.1,y.2)
def cC(l:List En)(e:Ex):Option (List Int×Ty):=
 if !(mV e&&wG e)then none
 else if e.kind≠14 then(abO l e).map λx=>([x.1],x.2)
 else(pW l true ⟨0,0,0⟩ e.ar).map λx=>(x.1,⟨x.2.k,x.2.e,x.1.length⟩)
def jF(t:Ty):Bool:=decide (t=⟨2,0,0⟩)
def qH(t:Ty):Bool:=decide (t=⟨1,0,0⟩)
def unT(t:Ty):Ty:=⟨t.k,t.e,0⟩
def Dq(l:List Ty):Bool:=l.all λt=>decide (t=l.getD 0 default)
def Dr(l:List En)(t:Ty)(arms:List (List UInt8)):Bool:=
 if jF t then arms==[[116,114,117,101],[102,97,108,115,101]]
 else if t.k≠3\/t.n≠0 then false else arms==(l.getD t.e.toNat default).ct
def OX(l:List rN)(t:List Ty):Bool:=(l.zip t).all λx=>decide (x.1.ty=x.2)
def ra(p:cY)(e:Ex)(t:List Ty):Option Nat:=
 if iR p e.name<0 then none
 else if(t.length:Int)-e.n≠(nodeAt p (iR p e.name).toNat).ins.length\/(e.n=1/\jF (t.getD (t.length-e.n.toNat) default)=false)then none
 else if OX (nodeAt p (iR p e.name).toNat).ins t then some (iR p e.name).toNat else none
def AW(p:cY)(node:Nat)(e:Ex)(t:List Ty):Option Ty:=
 if e.kind=9 then(if t.getD 0 default=t.getD 1 default then some (t.getD 0 default)else none)
 else if e.kind=10 then some (t.getD 0 default)
 else if e.kind=11 then(match eT (nodeAt p node) e.name with
  |some d=>if my p.en (e.arms.getD 0 [])/\(fA p.en (e.arms.getD 0 [])).1=d.ty then some (t.getD 0 default)else none
  |none=>none)
 else if e.kind=12 then(match eT (nodeAt p node) e.name with
  |some d=>if Dq t&&Dr p.en d.ty e.arms then some (t.getD 0 default)else none
  |none=>none)
 else match ra p e t with
  |some i=>if(nodeAt p i).outs.length=1 then some ((nodeAt p i).outs.getD 0 default).ty else none
  |none=>none
def rW(e:Ex)(t:List Ty):Option Ty:=
 if e.kind=5 then(if(vz e.op (t.getD 0 default)).2 then some (vz e.op (t.getD 0 default)).1 else none)
 else if e.kind=6 then(if(dB e.op (t.getD 0 default) (t.getD 1 default)).2 then some (dB e.op (t.getD 0 default) (t.getD 1 default)).1 else none)
 else if e.kind=7 then(if jF (t.getD 0 default)/\t.getD 1 default=t.getD 2 default then some (t.getD 1 default)else none)
 else if e.kind=14 then(if Dq t/\(t.getD 0 default).n=0 then some ⟨(t.getD 0 default).k,(t.getD 0 default).e,t.length⟩else none)
 else if e.kind=15 then(if 0<(t.getD 0 default).n/\qH (t.getD 1 default)then some (unT (t.getD 0 default))else none)
 else if 0<(t.getD 0 default).n/\qH (t.getD 1 default)/\t.getD 2 default=unT (t.getD 0 default)then some (t.getD 0 default)else none
def JV{α:Type}:List (Option α)->Option (List α)
 |[]=>some []
 |none::_=>none
 |some x::r=>(JV r).map (x::·)
mutual
def oV(p:cY)(node:Nat):Ex->Option Ty
 | .mk k n s o a l=>
   if k=1\/k=2\/k=4 then(cC p.en (.mk k n s o a l)).map (·.2)
   else if k=3 then(eT (nodeAt p node) s).map (·.ty)
   else if k=8 then(match cC p.en (l.getD 0 default),(agr p node l).getD 1 none with
    |some c,some u=>if c.2=u then some u else none
    |_,_=>none)
   else if k=17 then none
   else match JV (agr p node l)with
    |none=>none
    |some t=>if 9<=k/\k<=13 then AW p node (.mk k n s o a l) t else rW (.mk k n s o a l) t
def agr(p:cY)(node:Nat):List Ex->List (Option Ty)
 |[]=>[]
 |x::l=>oV p node x::agr p node l
end
theorem Yh(p:cY)(node:Nat):∀l,agr p node l=l.map (oV p node)
 |[]=>by rw[agr];rfl
 |x::l=>by rw[agr,Yh p node l];rfl
def iu(p:cY)(node:Nat)(e:Ex):Option (List Ty):=JV (e.ar.map (oV p node))
theorem yG(p:cY)(node:Nat):∀e:Ex,oV p node e=
 if e.kind=1\/e.kind=2\/e.kind=4 then(cC p.en e).map (·.2)
 else if e.kind=3 then(eT (nodeAt p node) e.name).map (·.ty)
 else if e.kind=8 then(match cC p.en (e.ar.getD 0 default),(e.ar.map (oV p node)).getD 1 none with
  |some c,some u=>if c.2=u then some u else none
  |_,_=>none)
 else if e.kind=17 then none
 else match iu p node e with
  |none=>none
  |some t=>if 9<=e.kind/\e.kind<=13 then AW p node e t else rW e t
 | .mk k n s o a l=>by rw[oV,Yh];rfl
def Hb(p:cY)(node:Nat)(x:wq):Option (List Ty):=
 if x.e.kind=13 then(match iu p node x.e with
  |none=>none
  |some t=>(ra p x.e t).map λi=>(nodeAt p i).outs.map (·.ty))
 else(oV p node x.e).map λt=>[t]
def AR(p:cY)(node:Nat)(x:wq):Bool:=
 match Hb p node x with
 |none=>false
 |some w=>w.length==x.names.length&&(w.zip x.names).all λy=>decide (((eT (nodeAt p node) y.2).getD default).ty=y.1)
def XZ(p:cY)(n:kZ)(d:rN):Bool:=d.on==[]||decide (((eT n d.on).getD default).ty=(fA p.en d.ct).1)
def qh(p:cY)(i:Nat)(n:kZ):Lp:=
 if !(dA n).all (XZ p n)then(i,-1,7)else aX (λk x=>if AR p i x then eu else((i:Int),(k:Int),7)) 0 n.eqs
def iV(p:cY):Lp:=if fX p≠eu then fX p else aX (qh p) 0 p.nodes
abbrev dY:=List UInt8×Int
def mS(l:List En):List rN->Option (List dY)
 |[]=>some []
 |d::r=>if my l d.ct then(mS l r).map ((d.on,(fA l d.ct).2.1)::·)else none
def da(p:cY)(node:Nat)(s:List UInt8):Option (List dY):=
 if node<p.nodes.length then(match mQ (nodeAt p node) s with|none=>none|some l=>mS p.en l)else none
mutual
def c0(p:cY)(node:Nat):Ex->List dY->Bool
 | .mk k n s o a l,on=>
   if k=1\/k=2\/k=4 then true
   else if k=3 then da p node s==some on
   else if k=8 then l.length==2&&(ng p node l [on,on]).getD 1 false
   else if k=11 then(match da p node s with
    |none=>false
    |some row=>a.length==1&&l.length==1&&my p.en (a.getD 0 [])&&on==row++[(s,(fA p.en (a.getD 0 [])).2.1)]&&(ng p node l [row]).getD 0 false)
   else if k=12 then da p node s==some on&&a.length==l.length&&a.all (my p.en)&&(ng p node l (a.map λc=>on++[(s,(fA p.en c).2.1)])).all id
   else if k=17 then false
   else(ng p node l (l.map λ_=>on)).all id
def ng(p:cY)(node:Nat):List Ex->List (List dY)->List Bool
 |[],_=>[]
 |_::_,[]=>[]
 |x::l,on::r=>c0 p node x on::ng p node l r
end
def GW(p:cY)(node:Nat)(x:wq):Bool:=
 (x.names.all λs=>(da p node s).getD []==(da p node (x.names.getD 0 [])).getD [])&&c0 p node x.e ((da p node (x.names.getD 0 [])).getD [])
def qg(p:cY)(i:Nat)(n:kZ):Lp:=
 if !(dA n).all (λd=>(da p i d.name).isSome)then(i,-1,8)else aX (λk x=>if GW p i x then eu else((i:Int),(k:Int),8)) 0 n.eqs
def iU(p:cY):Lp:=if iV p≠eu then iV p else aX (qg p) 0 p.nodes
end Go.Proofs.YtcokmopocppmiaaGreat

/- Programs: their cells; by what they are checked. -/
import Derived.Test.YtldnkkkooabaeaaGreatArT
import Derived.Test.YtldnkkkooabaeaaGreatMsA
set_option linter.all false
set_option maxRecDepth 20000
namespace Go.Proofs.YtldnkkkooabaeaaGreat
open Go.Nk
structure tN where
 name:B3
 ty:Ty
 on:B3
 ct:B3
instance:Inhabited tN:=⟨⟨[],⟨0,0,0⟩,[],[]⟩⟩
@[reducible] def gG(d:tN):Ab:=[.str d.name,.int .i64 d.ty.k,.int .i64 d.ty.e,.int .i64 d.ty.n,.str d.on,.str d.ct]
theorem y9:∀x y,gG x=gG y->x=y:=by
 rintro⟨a,⟨b,c,d⟩,e,f⟩ ⟨a',⟨b',c',d'⟩,e',f'⟩ hh
 simp_all
abbrev ur:tN->J:=eA gG
theorem as8:ux ur:=A0 y9
abbrev Vz:List tN->J:=eL gG
theorem abL:ux Vz:=yu y9
structure xY where
 names:BS
 e:Ex
instance:Inhabited xY:=⟨⟨[],default⟩⟩
@[reducible] def me(x:xY):Ab:=[.sl (cW x.names),.int .i64 x.e.kind,.int .i64 x.e.n,.str x.e.name,.int .i64 x.e.op,.sl (cW x.e.arms),.sl (x.e.ar.map cO)]
theorem abP:∀x y,me x=me y->x=y:=by
 rintro⟨a,e⟩ ⟨a',e'⟩ hh
 have h2:cO e=cO e':=by have:=C2 List.tail hh;simp_all[ai,me,List.tail_cons]
 simp only[me,DO,J.sl.injEq]at hh;rw[Dr hh.1,Ag _ _ h2]
abbrev Lq:xY->J:=eA me
theorem YC:ux Lq:=A0 abP
structure kY where
 name:B3
 ins:List tN
 outs:List tN
 vars:List tN
 eqs:List xY
instance:Inhabited kY:=⟨⟨[],[],[],[],[]⟩⟩
@[reducible] def fe(n:kY):Ab:=[.str n.name,.sl (n.ins.map gG),.sl (n.outs.map gG),.sl (n.vars.map gG),.sl (n.eqs.map me)]
theorem Jd:∀x y,fe x=fe y->x=y:=by
 rintro⟨a,b,c,d,e⟩ ⟨a',b',c',d',e'⟩ hh
 simp only[fe,DO,J.str.injEq,J.sl.injEq,Xv]at hh;obtain⟨rfl,h1,h2,h3,h4⟩:=hh;rw[map_inj y9 _ _ h1,map_inj y9 _ _ h2,map_inj y9 _ _ h3,map_inj abP _ _ h4]
abbrev tT:kY->J:=eA fe
theorem qT:ux tT:=A0 Jd
structure fc where
 en:List En
 nodes:List kY
@[reducible] def cE(p:fc):Ab:=[.sl (p.en.map kF),.sl (p.nodes.map fe)]
theorem ao6:∀x y,cE x=cE y->x=y:=by
 rintro⟨a,b⟩ ⟨a',b'⟩ hh
 simp only[cE,DO,J.sl.injEq,Xv]at hh;grind[map_inj,sN,Jd]
abbrev bA:fc->J:=eA cE
theorem dY:ux bA:=A0 ao6
def dQ(n:kY):List tN:=n.ins++n.outs++n.vars
def vG(l:List En)(d:tN):Bool:=qk d.name&&bg l d.ty&&((d.on==[]&&d.ct==[])||(qk d.on&&Sg d.ct))
def Ep(x:xY):Bool:=x.names.all qk&&decide (0<x.names.length)&&nj x.e&&(x.names.length==1||x.e.kind==13)
def ov(l:List En)(n:kY):Bool:=(dQ n).all (vG l)&&(n.ins++n.outs).all (λd=>d.on==[])&&n.eqs.all Ep&&qk n.name&&decide (0<n.outs.length)
def manyN(n:kY):Bool:=decide (6<n.ins.length)||decide (6<n.outs.length)||decide (12<n.vars.length)||decide (18<n.eqs.length)
def NZ(n:kY):Bool:=rW ((dQ n).map (·.name))
def kL(p:fc):Int:=
 if pF p.en≠0 then pF p.en else if p.nodes.length=0 then 5 else if 6<p.nodes.length then 4 else if p.nodes.any manyN then 4
 else if !p.nodes.all (ov p.en)then 1 else if !(p.nodes.all NZ&&rW (p.nodes.map (·.name)))then 6 else 0
def Lz(l:List tN):Bool:=(l.all λd=>decide (d.name.length<=100)&&decide (d.on.length<=100)&&decide (d.ct.length<=100))&&decide (l.length<=20)
def tV(x:xY):Bool:=decide (x.names.length<=20)&&eG x.e&&x.names.all λs=>decide (s.length<=100)
def dA(n:kY):Bool:=Lz n.ins&&Lz n.outs&&Lz n.vars&&decide (n.eqs.length<=30)&&decide (n.name.length<=100)&&n.eqs.all tV
def bF(p:fc):Bool:=vJ p.en&&decide (p.nodes.length<=10)&&p.nodes.all dA
def jx(p:fc)(s:B3):Int:=match p.nodes.findIdx? (λn=>n.name==s)with|some k=>k|none=> -1
def fv(n:kY)(s:B3):Option tN:=(dQ n).find? λd=>d.name==s
def Pb(n:kY):Nat->B3->List tN->Option (List tN)
 |0,_,_=>none
 |k+1,s,acc=>match fv n s with
  |none=>none
  |some d=>if d.on=[]then some acc else Pb n k d.on (d::acc)
def mj(n:kY)(s:B3):Option (List tN):=Pb n 13 s []
def nodeAt(p:fc)(i:Nat):kY:=p.nodes.getD i default
abbrev L6:=Int×Int×Int
def flt(i k e:Int):L6:=(i,k,e)
def fk:L6:=(0,0,0)
def V4(n:kY)(s:B3):Bool:=(fv n s).isSome
def nP(l:List En)(s:B3):Bool:=(gH l s).2.2
def p8(p:fc)(at_:Nat)(e:Ex):Bool:=
 if(e.kind=3\/e.kind=11\/e.kind=12)/\V4 (nodeAt p at_) e.name=false then false
 else if !e.arms.all (nP p.en)then false
 else if e.kind=4 then nP p.en e.name
 else if e.kind=13 then decide (0<=jx p e.name)&&decide (jx p e.name<at_)
 else e.kind !=17
def gJ(n:kY)(s:B3)(k:Nat):Int:=(((n.eqs.take k).flatMap (·.names)).filter (·==s)).length
def yb(n:kY)(s:B3):Bool:=n.ins.any λd=>d.name==s
def pC(n:kY)(i:Nat):BS->BS->Int
 |_,[]=>0
 |pre,s::r=>if V4 n s=false then 5 else if yb n s||decide (0<gJ n s i)||pre.any (·==s)then 6 else pC n i (pre++[s]) r
def F5(p:fc)(at_ i:Nat)(x:xY):Int:=
 if pC (nodeAt p at_) i [] x.names≠0 then pC (nodeAt p at_) i [] x.names else if(az x.e).all (p8 p at_)then 0 else 5
def bk{α:Type}(f:Nat->α->L6):Nat->List α->L6
 |_,[]=>fk
 |i,x::r=>if f i x=fk then bk f (i+1) r else f i x
def Qx(p:fc)(n:kY)(d:tN):Bool:=d.on !=[]&&(!V4 n d.on|| !nP p.en d.ct)
def w9(p:fc)(at_ i:Nat)(x:xY):L6:=if F5 p at_ i x=0 then fk else(at_,i,F5 p at_ i x)
def qR(p:fc)(at_:Nat)(n:kY):L6:=
 if(dQ n).any (Qx p n)then(at_,-1,5)
 else if bk (w9 p at_) 0 n.eqs≠fk then bk (w9 p at_) 0 n.eqs
 else if(n.outs++n.vars).any (λd=>gJ n d.name n.eqs.length==0)then(at_,-1,5)else fk
def g9(p:fc):L6:=if kL p≠0 then(0,-1,kL p)else bk (qR p) 0 p.nodes
def Tc(l:List En)(e:Ex):Option (Int×Ty):=
 if e.kind=1 then some (e.n,⟨1,0,0⟩)else if e.kind=2 then some (e.n,⟨2,0,0⟩)
 else if e.kind=5 then some (IntKind.i64.wrap (0-(e.ar.getD 0 default).n),⟨1,0,0⟩)
 else if(gH l e.name).2.2 then some ((gH l e.name).2.1,(gH l e.name).1)else none
def rS(l:List En):Bool->Ty->List Ex->Option (Ba×Ty)
 |_,t,[]=>some ([],t)
 |first,t,x::r=>match Tc l x with
  |none=>none
  |some (n,u)=>if first=false/\u≠t then none else(rS l false u r).map λy=>(n::y.1,y.2)
def dG(l:List En)(e:Ex):Option (Ba×Ty):=
 if !(nj e&&vF e)then none
 else if e.kind≠14 then(Tc l e).map λx=>([x.1],x.2)
 else(rS l true ⟨0,0,0⟩ e.ar).map λx=>(x.1,⟨x.2.k,x.2.e,x.1.length⟩)
def lF(t:Ty):Bool:=decide (t=⟨2,0,0⟩)
def uM(t:Ty):Bool:=decide (t=⟨1,0,0⟩)
def F6(t:Ty):Ty:=⟨t.k,t.e,0⟩
def Jx(l:List Ty):Bool:=l.all λt=>decide (t=l.getD 0 default)
def JB(l:List En)(t:Ty)(arms:BS):Bool:=
 if lF t then arms==[[116,114,117,101],[102,97,108,115,101]]
 else if t.k≠3\/t.n≠0 then false else arms==(l.getD t.e.toNat default).ct
def R9(l:List tN)(t:List Ty):Bool:=(l.zip t).all λx=>decide (x.1.ty=x.2)
def vC(p:fc)(e:Ex)(t:List Ty):BI:=
 if jx p e.name<0 then none
 else if(t.length:Int)-e.n≠(nodeAt p (jx p e.name).toNat).ins.length\/(e.n=1/\lF (t.getD (t.length-e.n.toNat) default)=false)then none
 else if R9 (nodeAt p (jx p e.name).toNat).ins t then some (jx p e.name).toNat else none
def Cx(p:fc)(node:Nat)(e:Ex)(t:List Ty):Option Ty:=
 if e.kind=9 then(if t.getD 0 default=t.getD 1 default then some (t.getD 0 default)else none)
 else if e.kind=10 then some (t.getD 0 default)
 else if e.kind=11 then(match fv (nodeAt p node) e.name with
  |some d=>if nP p.en (e.arms.getD 0 [])/\(gH p.en (e.arms.getD 0 [])).1=d.ty then some (t.getD 0 default)else none
  |none=>none)
 else if e.kind=12 then(match fv (nodeAt p node) e.name with
  |some d=>if Jx t&&JB p.en d.ty e.arms then some (t.getD 0 default)else none
  |none=>none)
 else match vC p e t with
  |some i=>if(nodeAt p i).outs.length=1 then some ((nodeAt p i).outs.getD 0 default).ty else none
  |none=>none
def tZ(e:Ex)(t:List Ty):Option Ty:=
 if e.kind=5 then(if(xb e.op (t.getD 0 default)).2 then some (xb e.op (t.getD 0 default)).1 else none)
 else if e.kind=6 then(if(dV e.op (t.getD 0 default) (t.getD 1 default)).2 then some (dV e.op (t.getD 0 default) (t.getD 1 default)).1 else none)
 else if e.kind=7 then(if lF (t.getD 0 default)/\t.getD 1 default=t.getD 2 default then some (t.getD 1 default)else none)
 else if e.kind=14 then(if Jx t/\(t.getD 0 default).n=0 then some ⟨(t.getD 0 default).k,(t.getD 0 default).e,t.length⟩else none)
 else if e.kind=15 then(if 0<(t.getD 0 default).n/\uM (t.getD 1 default)then some (F6 (t.getD 0 default))else none)
 else if 0<(t.getD 0 default).n/\uM (t.getD 1 default)/\t.getD 2 default=F6 (t.getD 0 default)then some (t.getD 0 default)else none
def Mb{α:Type}:List (Option α)->Option (List α)
 |[]=>some []
 |none::_=>none
 |some x::r=>(Mb r).map (x::·)
mutual
def rF(p:fc)(node:Nat):Ex->Option Ty
 | .mk k n s o a l=>
   if k=1\/k=2\/k=4 then(dG p.en (.mk k n s o a l)).map (·.2)
   else if k=3 then(fv (nodeAt p node) s).map (·.ty)
   else if k=8 then(match dG p.en (l.getD 0 default),(WN p node l).getD 1 none with
    |some c,some u=>if c.2=u then some u else none
    |_,_=>none)
   else if k=17 then none
   else match Mb (WN p node l)with
    |none=>none
    |some t=>if 9<=k/\k<=13 then Cx p node (.mk k n s o a l) t else tZ (.mk k n s o a l) t
def WN(p:fc)(node:Nat):List Ex->List (Option Ty)
 |[]=>[]
 |x::l=>rF p node x::WN p node l
end
theorem abQ(p:fc)(node:Nat):∀l,WN p node l=l.map (rF p node)
 |[]=>by rw[WN];rfl
 |x::l=>by rw[WN,abQ p node l];rfl
def jW(p:fc)(node:Nat)(e:Ex):Option (List Ty):=Mb (e.ar.map (rF p node))
theorem Ao(p:fc)(node:Nat):∀e:Ex,rF p node e=
 if e.kind=1\/e.kind=2\/e.kind=4 then(dG p.en e).map (·.2)
 else if e.kind=3 then(fv (nodeAt p node) e.name).map (·.ty)
 else if e.kind=8 then(match dG p.en (e.ar.getD 0 default),(e.ar.map (rF p node)).getD 1 none with
  |some c,some u=>if c.2=u then some u else none
  |_,_=>none)
 else if e.kind=17 then none
 else match jW p node e with
  |none=>none
  |some t=>if 9<=e.kind/\e.kind<=13 then Cx p node e t else tZ e t
 | .mk k n s o a l=>by rw[rF,abQ];rfl
def Ju(p:fc)(node:Nat)(x:xY):Option (List Ty):=
 if x.e.kind=13 then(match jW p node x.e with
  |none=>none
  |some t=>(vC p x.e t).map λi=>(nodeAt p i).outs.map (·.ty))
 else(rF p node x.e).map λt=>[t]
def Cu(p:fc)(node:Nat)(x:xY):Bool:=
 match Ju p node x with
 |none=>false
 |some w=>w.length==x.names.length&&(w.zip x.names).all λy=>decide (((fv (nodeAt p node) y.2).getD default).ty=y.1)
def R5(p:fc)(n:kY)(d:tN):Bool:=d.on==[]||decide (((fv n d.on).getD default).ty=(gH p.en d.ct).1)
def sy(p:fc)(i:Nat)(n:kY):L6:=
 if !(dQ n).all (R5 p n)then(i,-1,7)else bk (λk x=>if Cu p i x then fk else((i:Int),(k:Int),7)) 0 n.eqs
def jv(p:fc):L6:=if g9 p≠fk then g9 p else bk (sy p) 0 p.nodes
abbrev gT:=B3×Int
def ou(l:List En):List tN->Option (List gT)
 |[]=>some []
 |d::r=>if nP l d.ct then(ou l r).map ((d.on,(gH l d.ct).2.1)::·)else none
def dU(p:fc)(node:Nat)(s:B3):Option (List gT):=
 if node<p.nodes.length then(match mj (nodeAt p node) s with|none=>none|some l=>ou p.en l)else none
mutual
def ep(p:fc)(node:Nat):Ex->List gT->Bool
 | .mk k n s o a l,on=>
   if k=1\/k=2\/k=4 then true
   else if k=3 then dU p node s==some on
   else if k=8 then l.length==2&&(oO p node l [on,on]).getD 1 false
   else if k=11 then(match dU p node s with
    |none=>false
    |some row=>a.length==1&&l.length==1&&nP p.en (a.getD 0 [])&&on==row++[(s,(gH p.en (a.getD 0 [])).2.1)]&&(oO p node l [row]).getD 0 false)
   else if k=12 then dU p node s==some on&&a.length==l.length&&a.all (nP p.en)&&(oO p node l (a.map λc=>on++[(s,(gH p.en c).2.1)])).all id
   else if k=17 then false
   else(oO p node l (l.map λ_=>on)).all id
def oO(p:fc)(node:Nat):List Ex->List (List gT)->List Bool
 |[],_=>[]
 |_::_,[]=>[]
 |x::l,on::r=>ep p node x on::oO p node l r
end
def LR(p:fc)(node:Nat)(x:xY):Bool:=
 (x.names.all λs=>(dU p node s).getD []==(dU p node (x.names.getD 0 [])).getD [])&&ep p node x.e ((dU p node (x.names.getD 0 [])).getD [])
def sx(p:fc)(i:Nat)(n:kY):L6:=
 if !(dQ n).all (λd=>(dU p i d.name).isSome)then(i,-1,8)else bk (λk x=>if LR p i x then fk else((i:Int),(k:Int),8)) 0 n.eqs
def ke(p:fc):L6:=if jv p≠fk then jv p else bk (sx p) 0 p.nodes
end Go.Proofs.YtldnkkkooabaeaaGreat

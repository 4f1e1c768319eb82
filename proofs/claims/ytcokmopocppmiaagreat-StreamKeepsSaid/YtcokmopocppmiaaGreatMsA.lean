/- Flows: their cells; which are few. -/
import Derived.Test.YtcokmopocppmiaaGreatMmE
import Derived.Test.YtcokmopocppmiaaGreatTyI
set_option linter.all false
set_option maxRecDepth 20000
namespace Go.Proofs.YtcokmopocppmiaaGreat
open Go.Nk
@[reducible] def eD(x:List UInt8×Int):List DV:=[.str x.1,.int .i64 x.2]
theorem mu:∀x y,eD x=eD y->x=y:=λx y h=>by obtain⟨a,b⟩:=x;obtain⟨c,d⟩:=y;simpa[eD]using h
structure Pl where
 kind:Int
 names:List (List UInt8)
 op:Int
 args:List (List UInt8×Int)
 init:List Int
 node:Int
 reset:Bool
 ev:List UInt8
 en:Int
 on:List (List UInt8×Int)
instance:Inhabited Pl:=⟨⟨0,[],0,[],[],0,false,[],0,[]⟩⟩
@[reducible] def fJ(p:Pl):List DV:=[.int .i64 p.kind,.sl (dI p.names),.int .i64 p.op,.sl (p.args.map eD),.sl (cX p.init),.int .i64 p.node,.bool p.reset,.str p.ev,.int .i64 p.en,.sl (p.on.map eD)]
theorem M4:∀x y,fJ x=fJ y->x=y:=by
 rintro⟨a,b,c,d,e,f,g,h,i,j⟩ ⟨a',b',c',d',e',f',g',h',i',j'⟩ hh
 simp only[fJ,List.cons.injEq,DV.str.injEq,DV.int.injEq,DV.sl.injEq,DV.bool.injEq,true_and,and_true]at hh;obtain⟨rfl,h1,rfl,h2,h3,rfl,rfl,rfl,rfl,h4⟩:=hh;rw[BR h1,map_inj mu _ _ h2,sH h3,map_inj mu _ _ h4]
abbrev ePl:Pl->DV:=eA fJ
theorem ajC:rJ ePl:=zq M4
structure Va where
 name:List UInt8
 k:Int
 e:Int
 l:Int
 on:List (List UInt8×Int)
@[reducible] def dZ(v:Va):List DV:=[.str v.name,.int .i64 v.k,.int .i64 v.e,.int .i64 v.l,.sl (v.on.map eD)]
theorem yr:∀x y,dZ x=dZ y->x=y:=by
 rintro⟨a,b,c,d,e⟩ ⟨a',b',c',d',e'⟩ hh
 simp only[dZ,List.cons.injEq,DV.str.injEq,DV.int.injEq,DV.sl.injEq,true_and,and_true]at hh;obtain⟨rfl,rfl,rfl,rfl,h4⟩:=hh;rw[map_inj mu _ _ h4]
structure Fl where
 name:List UInt8
 ins:List Va
 outs:List Va
 vars:List Va
 eqs:List Pl
instance:Inhabited Fl:=⟨⟨[],[],[],[],[]⟩⟩
@[reducible] def j0(f:Fl):List DV:=[.str f.name,.sl (f.ins.map dZ),.sl (f.outs.map dZ),.sl (f.vars.map dZ),.sl (f.eqs.map fJ)]
theorem GL:∀x y,j0 x=j0 y->x=y:=by
 rintro⟨a,b,c,d,e⟩ ⟨a',b',c',d',e'⟩ hh
 simp only[j0,List.cons.injEq,DV.str.injEq,DV.sl.injEq,and_true]at hh;obtain⟨rfl,h1,h2,h3,h4⟩:=hh;rw[map_inj yr _ _ h1,map_inj yr _ _ h2,map_inj yr _ _ h3,map_inj M4 _ _ h4]
abbrev WC:Fl->DV:=eA j0
theorem D5:rJ WC:=zq GL
structure jw where
 enums:List En
 fs:List Fl
@[reducible] def b8(f:jw):List DV:=[.sl (f.enums.map jQ),.sl (f.fs.map j0)]
theorem Aj:∀x y,b8 x=b8 y->x=y:=by
 rintro⟨a,b⟩ ⟨a',b'⟩ hh
 simp only[b8,List.cons.injEq,DV.sl.injEq,and_true]at hh;rw[map_inj vh _ _ hh.1,map_inj GL _ _ hh.2]
abbrev jz:jw->DV:=eA b8
theorem o9:rJ jz:=zq Aj
def WX(f:Fl):Prop:=f.eqs.length<=bI
def azT(l:jw):Prop:=l.fs.length<=bI/\∀f∈l.fs,WX f
end Go.Proofs.YtcokmopocppmiaaGreat

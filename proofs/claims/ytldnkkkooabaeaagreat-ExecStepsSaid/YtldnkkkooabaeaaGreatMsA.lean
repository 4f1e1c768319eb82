/- Flows: their cells; which are few. -/
import Derived.Test.YtldnkkkooabaeaaGreatMmE
import Derived.Test.YtldnkkkooabaeaaGreatTyI
set_option linter.all false
set_option maxRecDepth 20000
namespace Go.Proofs.YtldnkkkooabaeaaGreat
open Go.Nk
@[reducible] def eD(x:B3×Int):Ab:=[.str x.1,.int .i64 x.2]
theorem qJ:∀x y,eD x=eD y->x=y:=λx y h=>by obtain⟨a,b⟩:=x;obtain⟨c,d⟩:=y;simpa[eD]using h
structure Pl where
 kind:Int
 names:BS
 op:Int
 args:List (B3×Int)
 init:Ba
 node:Int
 reset:Bool
 ev:B3
 en:Int
 on:List (B3×Int)
instance:Inhabited Pl:=⟨⟨0,[],0,[],[],0,false,[],0,[]⟩⟩
@[reducible] def iK(p:Pl):Ab:=[.int .i64 p.kind,.sl (cW p.names),.int .i64 p.op,.sl (p.args.map eD),.sl (cC p.init),.int .i64 p.node,.bool p.reset,.str p.ev,.int .i64 p.en,.sl (p.on.map eD)]
theorem z8:∀x y,iK x=iK y->x=y:=by
 rintro⟨a,b,c,d,e,f,g,h,i,j⟩ ⟨a',b',c',d',e',f',g',h',i',j'⟩ hh
 simp only[iK,DO,J.str.injEq,J.int.injEq,J.sl.injEq,J.bool.injEq,Bt,Xv]at hh;obtain⟨rfl,h1,rfl,h2,h3,rfl,rfl,rfl,rfl,h4⟩:=hh;rw[Dr h1,map_inj qJ _ _ h2,sO h3,map_inj qJ _ _ h4]
abbrev J1:Pl->J:=eA iK
theorem _E:ux J1:=A0 z8
structure Va where
 name:B3
 k:Int
 e:Int
 l:Int
 on:List (B3×Int)
@[reducible] def eu(v:Va):Ab:=[.str v.name,.int .i64 v.k,.int .i64 v.e,.int .i64 v.l,.sl (v.on.map eD)]
theorem oY:∀x y,eu x=eu y->x=y:=by
 rintro⟨a,b,c,d,e⟩ ⟨a',b',c',d',e'⟩ hh
 simp only[eu,DO,J.str.injEq,J.int.injEq,J.sl.injEq,Bt,Xv]at hh;obtain⟨rfl,rfl,rfl,rfl,h4⟩:=hh;rw[map_inj qJ _ _ h4]
structure Fl where
 name:B3
 ins:List Va
 outs:List Va
 vars:List Va
 eqs:List Pl
instance:Inhabited Fl:=⟨⟨[],[],[],[],[]⟩⟩
@[reducible] def lf(f:Fl):Ab:=[.str f.name,.sl (f.ins.map eu),.sl (f.outs.map eu),.sl (f.vars.map eu),.sl (f.eqs.map iK)]
theorem Dg:∀x y,lf x=lf y->x=y:=by
 rintro⟨a,b,c,d,e⟩ ⟨a',b',c',d',e'⟩ hh
 simp only[lf,DO,J.str.injEq,J.sl.injEq,Xv]at hh;obtain⟨rfl,h1,h2,h3,h4⟩:=hh;rw[map_inj oY _ _ h1,map_inj oY _ _ h2,map_inj oY _ _ h3,map_inj z8 _ _ h4]
abbrev UC:Fl->J:=eA lf
theorem BT:ux UC:=A0 Dg
structure cT where
 enums:List En
 fs:List Fl
@[reducible] def cD(f:cT):Ab:=[.sl (f.enums.map kF),.sl (f.fs.map lf)]
theorem BO:∀x y,cD x=cD y->x=y:=by
 rintro⟨a,b⟩ ⟨a',b'⟩ hh
 simp only[cD,DO,J.sl.injEq,Xv]at hh;rw[map_inj sN _ _ hh.1,map_inj Dg _ _ hh.2]
abbrev mc:cT->J:=eA cD
theorem sR:ux mc:=A0 BO
def X6(f:Fl):Prop:=f.eqs.length<=bN
def aFU(l:cT):Prop:=l.fs.length<=bN/\∀f∈l.fs,X6 f
end Go.Proofs.YtldnkkkooabaeaaGreat

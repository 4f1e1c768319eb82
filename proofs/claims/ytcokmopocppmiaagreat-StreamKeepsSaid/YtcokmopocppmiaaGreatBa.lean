/- An instruction's four numbers. -/
import Derived.Test.YtcokmopocppmiaaGreatRn
set_option linter.all false
set_option maxRecDepth 20000
namespace Go.Proofs.YtcokmopocppmiaaGreat
open Go.Nk
structure In4 where
 op:Int
 a:Int
 b:Int
 n:Int
 deriving DecidableEq
instance:Inhabited In4:=⟨⟨0,0,0,0⟩⟩
def OG(n:Int):Prop:= -9223372036854775808<=n/\n<9223372036854775808
def dI(l:List (List UInt8)):List (List DV):=l.map λs=>[.str s]
theorem aj(l:List (List UInt8)):(dI l).length=l.length:=by simp[dI]
theorem BR{l l'}(h:dI l=dI l'):l=l':=by
 have:∀x y:List UInt8,[DV.str x]=[.str y]->x=y:=λx y h=>by simpa using h
 exact List.map_inj_right (λx y=>this x y)|>.1 h
theorem Bf{l:List (List UInt8)}{i}(h:i<l.length):(dI l).getD i []=[.str (l.getD i [])]:=by simp[dI,h]
@[reducible] def eSs(l:List (List UInt8)):DV:= .sl (dI l)
theorem aj7:rJ eSs:=λ_ _ h=>BR (by simpa[eSs]using h)
def cX(l:List Int):List (List DV):=l.map λn=>[.int .i64 n]
theorem aV(l:List Int):(cX l).length=l.length:=by simp[cX]
theorem sH{l l'}(h:cX l=cX l'):l=l':=by
 have:∀x y:Int,[DV.int .i64 x]=[.int .i64 y]->x=y:=λx y h=>by simpa using h
 exact List.map_inj_right (λx y=>this x y)|>.1 h
theorem Ys{l:List Int}{i}(h:i<l.length):(cX l).getD i []=[.int .i64 (l.getD i 0)]:=by simp[cX,h]
@[reducible] def m6(l:List Int):DV:= .sl (cX l)
theorem mq:rJ m6:=λ_ _ h=>sH (by simpa[m6]using h)
theorem aku(l):∀e∈cX l,e.length=1:=by simp[cX]
theorem Yw{α}{p:α->Bool}{l:List α}{d0:α}{k}(hk:k<l.length)(h:∀x∈l.take k,p x=true)(e:p (l.getD k d0)=true):∀x∈l.take (k+1),p x=true:=by
 have hg:l.getD k d0=l[k]:=by simp[hk]
 rw[hg]at e;have e2:=List.getElem?_eq_getElem hk;rw[List.take_add_one,e2];intro x hx;rcases List.mem_append.1 hx with hx|hx
 ·exact h x hx
 ·simp at hx;rw[hx];exact e
theorem aeu{α}{p:α->Bool}{l:List α}{d0:α}{k}(hk:k<l.length)(e:p (l.getD k d0)=false):l.all p=false:=by
 have hg:l.getD k d0=l[k]:=by simp[hk]
 rw[hg]at e;rw[List.all_eq_false];exact⟨l[k],List.getElem_mem hk,by simp[e]⟩
theorem Yv{α}{p:α->Bool}{l:List α}{k}(hk:¬k<l.length)(h:∀x∈l.take k,p x=true):l.all p=true:=by rw[List.take_of_length_le (by omega)]at h;exact List.all_eq_true.2 h
def BN(l):=show(∀e∈cX l,e.length=1)=_ from eq_true (aku l)
theorem Jl{l}{k}{x}(h:l[k]? =some x):(cX l).getD k []=[.int .i64 x]:=by unfold cX;exact af _ h
theorem akv{l}{k}{x}(h:l[k]? =some x):(dI l).getD k []=[.str x]:=by unfold dI;exact af _ h
@[reducible] def dG(l:List Int):List DV:=[.sl (cX l)]
def Xc:=show∀x y,dG x=dG y->x=_ fromλx y h=>sH (by simpa using h)
abbrev iY:List (List Int)->DV:=eL dG
theorem o6:rJ iY:=Al Xc
theorem akw(l)(x):cX l++[[.int .i64 x]]=cX (l++[x]):=by simp[cX]
def apK{g t:List ak}{o}:=show(g++(o::t))[g.length]? =_ from lk
def auj{g t:List ak}{o o'}:=show(g++(o::t)).set g.length o'=_ from lp
theorem aoi(n):List.replicate n [DV.int .i64 0]=cX (List.replicate n 0):=by simp[cX]
def arU{l:List Int}{n}(h:n=l.length):=show(cX l).take n=_ from List.take_of_length_le (by rw[aV];omega)
@[reducible] def eY(b:UInt8):DV:= .int .u8 b.toNat
theorem SU:rJ eY:=λx y h=>by injection h with _ h;exact UInt8.toNat_inj.1 (by omega)
def td(l):=show(∀e∈dI l,e.length=1)=_ from eq_true (by simp[dI])
def Vs(l:List (List UInt8)):=show(dI l).take l.length=_ from List.take_of_length_le (by rw[aj];exact Nat.le_refl _)
theorem ack(a b):dI a++dI b=dI (a++b):=by simp[dI]
theorem Pr(a)(s):dI a++[[.str s]]=dI (a++[s]):=by simp[dI]
theorem fk{l}{k}{x}(h:l[k]? =some x):(dI l).getD k []=[.str x]:=by unfold dI;exact af _ h
theorem getD_some{α}{l:List α}{k}{x d:α}(h:l[k]? =some x):l.getD k d=x:=by simp[List.getD,h]
theorem auW(x:UInt8):((x.toNat:Int) !=95)= !(x==95):=by have:=Yx x 95;simpa[bne]using this
theorem Uo(l:List Int):(cX l).take l.length=cX l:=List.take_of_length_le (by rw[aV];exact Nat.le_refl _)
end Go.Proofs.YtcokmopocppmiaaGreat

/- An instruction's four numbers. -/
import Derived.Test.YtldnkkkooabaeaaGreatRn
set_option linter.all false
set_option maxRecDepth 20000
namespace Go.Proofs.YtldnkkkooabaeaaGreat
open Go.Nk
structure S_ where
 op:Int
 a:Int
 b:Int
 n:Int
 deriving DecidableEq
instance:Inhabited S_:=⟨⟨0,0,0,0⟩⟩
def NR(n:Int):Prop:= -9223372036854775808<=n/\n<9223372036854775808
def cW(l:BS):List Ab:=l.map λs=>[.str s]
theorem ak(l:BS):(cW l).length=l.length:=by simp[cW]
theorem Dr{l l':BS}(h:cW l=cW l'):l=l':=by
 have:∀x y:B3,[J.str x]=[.str y]->x=y:=λx y h=>by simpa using h
 exact List.map_inj_right (λx y=>this x y)|>.1 h
theorem CG{l:BS}{i:Nat}(h:i<l.length):(cW l).getD i []=[.str (l.getD i [])]:=by simp[cW,h]
@[reducible] def Ec(l:BS):J:= .sl (cW l)
theorem aoW:ux Ec:=λ_ _ h=>Dr (by simpa[Ec]using h)
def cC(l:Ba):List Ab:=l.map λn=>[.int .i64 n]
theorem aU(l:Ba):(cC l).length=l.length:=by simp[cC]
theorem sO{l l':Ba}(h:cC l=cC l'):l=l':=by
 have:∀x y:Int,[J.int .i64 x]=[.int .i64 y]->x=y:=λx y h=>by simpa using h
 exact List.map_inj_right (λx y=>this x y)|>.1 h
theorem ab2{l:Ba}{i:Nat}(h:i<l.length):(cC l).getD i []=[.int .i64 (l.getD i 0)]:=by simp[cC,h]
@[reducible] def mH(l:Ba):J:= .sl (cC l)
theorem nN:ux mH:=λ_ _ h=>sO (by simpa[mH]using h)
theorem api(l:Ba):∀e∈cC l,e.length=1:=by simp[cC]
theorem ab5{α:Type}{p:α->Bool}{l:List α}{d0:α}{k:Nat}(hk:k<l.length)(h:∀x∈l.take k,p x=true)(e:p (l.getD k d0)=true):∀x∈l.take (k+1),p x=true:=by
 have hg:l.getD k d0=l[k]:=by simp[hk]
 rw[hg]at e;have e2:l[k]? =some l[k]:=tx hk;rw[List.take_add_one,e2];intro x U;rcases pt.1 U with U|U
 .exact h x U
 .simp at U;rw[U];exact e
theorem ah9{α:Type}{p:α->Bool}{l:List α}{d0:α}{k:Nat}(hk:k<l.length)(e:p (l.getD k d0)=false):l.all p=false:=by
 have hg:l.getD k d0=l[k]:=by simp[hk]
 rw[hg]at e;rw[List.all_eq_false];exact⟨l[k],MJ hk,by simp[e]⟩
theorem ab4{α:Type}{p:α->Bool}{l:List α}{k:Nat}(hk:¬k<l.length)(h:∀x∈l.take k,p x=true):l.all p=true:=by rw[vc (by omega)]at h;exact BE.2 h
theorem uR(l:Ba):(∀e∈cC l,e.length=1)=True:=lU (api l)
theorem LD{l:Ba}{k:Nat}{x:Int}(h:l[k]? =some x):(cC l).getD k []=[.int .i64 x]:=by unfold cC;exact ag _ h
theorem apj{l:BS}{k:Nat}{x:B3}(h:l[k]? =some x):(cW l).getD k []=[.str x]:=by unfold cW;exact ag _ h
@[reducible] def cy(l:Ba):Ab:=[.sl (cC l)]
theorem aa8:∀x y,cy x=cy y->x=y:=λx y h=>sO (by simpa using h)
abbrev tf:Bd->J:=eL cy
theorem yR:ux tf:=yu aa8
theorem apk(l:Ba)(x:Int):cC l++[[.int .i64 x]]=cC (l++[x]):=by simp[cC]
theorem ave{g t:List ae}{o:ae}:(g++(o::t))[g.length]? =some o:=aia
theorem azZ{g t:List ae}{o o':ae}:(g++(o::t)).set g.length o'=g++(o'::t):=aib
theorem ati(n:Nat):List.replicate n [J.int .i64 0]=cC (List.replicate n 0):=by simp[cC]
theorem axx{l:Ba}{n:Nat}(h:n=l.length):(cC l).take n=cC l:=vc (by rw[aU];omega)
@[reducible] def eY(b:UInt8):J:= .int .u8 b.toNat
theorem Wc:ux eY:=λx y h=>by injection h with _ h;exact UInt8.toNat_inj.1 (by omega)
theorem sr(l:BS):(∀e∈cW l,e.length=1)=True:=lU (by simp[cW])
theorem PV(l:BS):(cW l).take l.length=cW l:=vc (by rw[ak];exact By _)
theorem aga(a b:BS):cW a++cW b=cW (a++b):=by simp[cW]
theorem Ix(a:BS)(s:B3):cW a++[[.str s]]=cW (a++[s]):=by simp[cW]
theorem fN{l:BS}{k:Nat}{x:B3}(h:l[k]? =some x):(cW l).getD k []=[.str x]:=by unfold cW;exact ag _ h
theorem getD_some{α:Type}{l:List α}{k:Nat}{x d:α}(h:l[k]? =some x):l.getD k d=x:=by simp[List.getD,h]
theorem aAA(x:UInt8):((x.toNat:Int) !=95)= !(x==95):=by have:=ab6 x 95;simpa[bne]using this
theorem PT(l:Ba):(cC l).take l.length=cC l:=vc (by rw[aU];exact By _)
end Go.Proofs.YtldnkkkooabaeaaGreat

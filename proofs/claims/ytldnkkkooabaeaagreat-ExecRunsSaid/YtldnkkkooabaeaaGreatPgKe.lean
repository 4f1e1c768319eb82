/- A Flow's variables, one behind the other; the one of a name (21). -/
import Derived.Test.YtldnkkkooabaeaaGreatPgIc
set_option linter.all false
set_option maxRecDepth 20000
namespace Go.Proofs.YtldnkkkooabaeaaGreat
open Go.Nk
abbrev vX:Va->J:=eA eu
theorem awU:ux vX:=A0 oY
abbrev Tv:List Va->J:=eL eu
theorem ahO:ux Tv:=yu oY
@[reducible] def UN(b:List Va):Ab:=[.sl (b.map eu)]
def aoi:=show∀x y,UN x=UN y->x=_ fromλx y h=>map_inj oY _ _ (by simpa using h)
abbrev vY:List (List Va)->J:=eL UN
theorem aoj:ux vY:=yu aoi
@[reducible] def Q0(s:B3):J:= .Bg 127 [.ref [.str s]]
theorem aj9:ux Q0:=λ_ _ h=>by simpa[Q0]using h
def Q1(l:List Va):=show(∀e∈l.map eu,e.length=5)=_ from lU (by simp)
def aCo(a b:List Va):=show a.map eu++b.map eu=_ from(IN ..).symm
noncomputable def p_:Ab->Prop×J:=bJ UC λf=>(f.ins.length<=1000000/\f.outs.length<=1000000/\f.vars.length<=1000000,.sl ((fu f).map eu))
def aol(f:Fl):=show p_ [.agg (lf f)]=_ from aI BT _ f
theorem aJC:aJ Tryz.prog 152 p_:=by
 refine aJ.mS (ps:=[]) (I:=[]) trivial trivial aGU λf h=>?_;try dsimp only at h
 obtain⟨name,ins,outs,vars,eqs⟩:=f;obtain⟨h1,h2,h3⟩:=h;dsimp only at h1 h2 h3;have t1:List.take ins.length (ins.map eu)=ins.map eu:=vc (by simp);have t2:List.take outs.length (outs.map eu)=outs.map eu:=vc (by simp);have t3:List.take vars.length (vars.map eu)=vars.map eu:=vc (by simp);have t4:List.take (ins.length+outs.length+vars.length) (((ins++outs)++vars).map eu)=((ins++outs)++vars).map eu:=vc (by simp;omega);exact ao (jg @avC.eq_1 @UC.eq_1 @Q1 @fu.eq_1 @aCo t4) zz
noncomputable def Tw:Ab->Prop×J:=cH UC eS λf s=>(f.ins.length<=1000000/\f.outs.length<=1000000/\f.vars.length<=1000000,.b9 [.agg (eu ((fO f s).getD K8)),.bool (fO f s).isSome])
def PU(f:Fl)(s):=show Tw [.agg (lf f),.str s]=_ from aY BT kj _ f s
theorem aCt:aJ Tryz.prog 128 Tw:=by
 refine aJ.se (ps:=[(152,p_)]) (I:=[]) ⟨aJC,BB⟩ trivial aGw λf s h=>?_;try dsimp only at h
 obtain⟨h1,h2,h3⟩:=h;have e0:=aol f;rw[lU (⟨h1,h2,h3⟩:f.ins.length<=1000000/\f.outs.length<=1000000/\f.vars.length<=1000000)]at e0;have hl:(fu f).length<=3000000:=by simp[fu];omega
 refine ao (cL @avq.eq_1 @UC.eq_1 e0) (JJ ?_);refine aj (fu f) (λk (_:Unit)=>⟨[(1,.str s),(4,.ptr 0 1 0 0),(6,.sl ((fu f).map eu)),(7,.int .i64 k)],[⟨.loc,5,[[.str [],.int .i64 0,.int .i64 0,.int .i64 0,.nil]]⟩]⟩) (λk r _=>r.find? (λv=>v.name==s)=fO f s) () (by decide) CT rfl (λk x r _ d U Z E=>?_) (λk _ e E=>?_)
 .rw[Kb]at E;have ga:=ag eu U;by_cases c:x.name=s
  .rw[show(x.name==s)=true by simp[c]]at E;dsimp only at E;rw[<-E];exact ao (fF d ga c @S1.{0} @OV.{0}) zz
  .rw[show(x.name==s)=false by simp[c]]at E;dsimp only at E;refine ao (bV d ga) (bV ?_ (JJ ?_))<;>intros;all_goals first
    |exact absurd (by assumption) c
    |exact⟨(),CT,E⟩
 .rw[List.find?_nil]at E;rw[<-E];exact ao (fj e @Option.getD_none.{0} @GI.{0} @K8.eq_1) zz
def gV(n:Nat):List ae:=if n=0 then []else [⟨.dead,5,List.replicate n [.str [],.int .i64 0,.int .i64 0,.int .i64 0,.nil]⟩,⟨.dead,5,[]⟩]
noncomputable def Yf:Ab->List ae->o9:=iY (λ(x:Nat×Nat) a B=>a=[.nil,.int .i64 x.1]/\x.2=B.length) (λx=>(x.1<=100000000,.own (x.2+(gV x.1).length) 0 0 0)) λx B=>B++(gV x.1++[⟨.aV,5,[]⟩])
theorem abf(n:Nat)(B:List ae):Yf [.nil,.int .i64 n] B=⟨n<=100000000,.own (B.length+(gV n).length) 0 0 0,B++(gV n++[⟨.aV,5,[]⟩])⟩:=by
 refine fh (x:=(n,B.length)) ?_ ⟨rfl,rfl⟩
 rintro⟨x1,x2⟩ ⟨y1,y2⟩ a B ⟨rfl,rfl⟩ ⟨h,rfl⟩
 simp only[DO,J.int.injEq,Bt,Xv]at h;have:x1=y1:=by omega
 subst this;rfl
theorem aJD:ez Tryz.prog 151 Yf:=by
 refine ez.Vq (ps:=[]) (I:=[]) trivial trivial aGT (by rintro x a B ⟨rfl,_⟩;rfl) ?_
 rintro⟨n,L⟩ a B ⟨rfl,rfl⟩ hl
 simp only at hl|-;by_cases q:n=0
 .subst q;exact sM (bV @gY.eq_1 @gV.eq_1) zz
 .exact sM (jg @gY.eq_1 @gV.eq_1 q @jq.eq_def @fy.eq_def @Int.sub_zero) zz
noncomputable def LL:Ab->Prop×J:=bJ vY λv=>(v.length<=1000000/\v.flatten.length<=100000000,.sl (v.flatten.map eu))
def aJE(v:List (List Va)):=show LL [.sl (v.map UN)]=_ from aI aoj _ v
theorem aJF:aJ Tryz.prog 125 LL:=by
 refine aJ.mS (ps:=[]) (I:=[(151,Yf)]) trivial ⟨aJD,BB⟩ aGt λv h=>?_;obtain⟨hl,hf⟩:=h;have azY:∀v:List (List Va),v.flatten.length=(v.map List.length).sum:=λv=>List.length_flatten;refine ao (bV @avm.eq_1 @vY.eq_1) (JJ ?_);refine aj v (λk (n:Nat)=>⟨[(0,.sl (v.map UN)),(3,.int .i64 n),(9,.sl (v.map UN)),(10,.int .i64 v.length),(11,.int .i64 k)],[]⟩) (λk r n=>n+r.flatten.length=v.flatten.length) 0 (By _) CT (by simp) (λk x r n d U Z E=>?_) (λk n e E=>?_)
 .simp only[List.flatten_cons,AS]at E;refine ao (bV d (ag UN U)) (JJ (λhn=>?_));exact⟨n+x.length,CT,by omega⟩
 simp only[List.flatten_nil,Cd,UP]at E;subst E;have Y:=abf v.flatten.length [];simp only[Cd,GL,Bz]at Y;refine ao (bV e Y) (JJ ?_);refine aj v (λk (o:List Va)=>⟨[(6,.own (gV v.flatten.length).length o.length 0 o.length),(25,.sl (v.map UN)),(26,.int .i64 v.length),(27,.int .i64 k)],gV v.flatten.length++[⟨.aV,5,o.map eu⟩]⟩) (λk r o=>o++r.flatten=v.flatten) [] trivial CT rfl (λk x r o d U Z E=>?_) (λk o e E=>?_)
 .simp only[List.flatten_cons]at E;have hb:o.length+x.length<=v.flatten.length:=by rw[<-E];simp
  have t1:List.take x.length (x.map eu)=x.map eu:=vc (by simp);refine ao (jg @Q1 d (ag UN U) @ave @azZ @aCo) (JJ ?_);exact⟨o++x,CT,by simpa using E⟩
 .simp only[List.flatten_nil,xz]at E;subst E;have t1:List.take v.flatten.length (v.flatten.map eu)=v.flatten.map eu:=vc (by rw[Pe];exact By _);exact ao (cL e @ave t1) zz
noncomputable def q_:Ab->Prop×J:=cH vX uq λc p=>(True,.bool (decide (c.name=p)))
def aon(c:Va)(p):=show q_ [.agg (eu c),.ref [.str p]]=_ from aY awU awV _ c p
theorem aJG:aJ Tryz.prog 127 q_:=by refine aJ.se (ps:=[]) (I:=[]) trivial trivial aGv λc p _=>?_;refine ao (cL @avo.eq_1 @uq.eq_1 @vX.eq_1) (JJ ?_);all_goals(rw[Bool.eq_iff_iff];simp)
def Yi(m:List Va)(p:B3):BI:=m.findIdx? λc=>c.name==p
def U0(m:List Va)(p:B3):Int:=match Yi m p with|some k=>k|none=> -1
noncomputable def r_:Ab->Prop×J:=cH Tv Q0 λm p=>(m.length<=100000000,.int .i64 (U0 m p))
def aop(m:List Va)(p):=show r_ [.sl (m.map eu),.Bg 127 [.ref [.str p]]]=_ from aY ahO aj9 _ m p
theorem aJH:aJ Tryz.prog 126 r_:=by
 refine aJ.se (ps:=[(127,q_)]) (I:=[]) ⟨aJG,BB⟩ trivial aGu λm p h=>?_;try dsimp only at h
 have h:m.length<=100000000:=h;refine ao (cL @avn.eq_1 @Q0.eq_1 @Tv.eq_1) (JJ ?_);refine aj m (λk (_:Unit)=>⟨[(0,.sl (m.map eu)),(1,.Bg 127 [.ref [.str p]]),(7,.int .i64 m.length),(8,.int .i64 k)],[]⟩) (λk r _=>(r.findIdx? λc=>c.name==p).map (·+k)=Yi m p) () (AI _) CT (by simp[Yi]) (λk x r _ d U Z E=>?_) (λk _ e E=>?_)
 .rw[List.findIdx?_cons]at E;have Y:=aon x p;simp only[eu]at Y;by_cases e:x.name=p
  .rw[ON e]at Y;simp[e]at E;refine ao (cL d (ag eu U) Y) (JJ ?_);simp[U0,<-E]
  .rw[Z7 e]at Y;refine ao (cL d (ag eu U) Y) (JJ ?_);refine⟨(),CT,?_⟩;simp[e]at E;rw[<-E];congr 1;funext y;simp;omega
 .simp only[List.findIdx?_nil,Option.map_none]at E;exact ao (cL e @U0.eq_def (CD E)) zz
theorem aka{m:List Va}{p}{k}(h:Yi m p=some k):∃c,m[k]? =some c/\m.find? (λc=>c.name==p)=some c:=by
 induction m generalizing k with
 |nil=>simp[Yi]at h
 |cons x r ih=>
  rw[Yi,List.findIdx?_cons]at h;by_cases c:x.name==p
  .rw[gr c]at h;cases h;exact⟨x,rfl,by rw[Kb,c]⟩
  .rw[ba c]at h;cases E:List.findIdx? (λc=>c.name==p) r with
   |none=>rw[E]at h;cases h
   |some j=>
    rw[E]at h;cases h;obtain⟨c',h1,h2⟩:=ih E;exact⟨c',by simpa using h1,by rw[Kb,Fb _|>.mp c];exact h2⟩
theorem akb{m:List Va}{p}(h:Yi m p=none):m.find? (λc=>c.name==p)=none:=by
 rw[Yi,List.findIdx?_eq_none_iff]at h;rw[List.find?_eq_none]
 exactλx U=>by rw[h x U];simp
theorem aCu:aJ Tryz.prog 94 Tw:=by
 refine aJ.se (ps:=[(125,LL),(126,r_)]) (I:=[]) ⟨aJF,aJH,BB⟩ trivial afp λf s h=>?_;try dsimp only at h
 obtain⟨name,ins,outs,vars,eqs⟩:=f;obtain⟨h1,h2,h3⟩:=h;dsimp only at h1 h2 h3;have PH:[ins,outs,vars].flatten=ins++outs++vars:=by simp
 have e0:=aJE [ins,outs,vars];rw[PH]at e0;have e0:=e0;simp only[p0,DD,UN]at e0;have hl:(ins++outs++vars).length<=100000000:=by simp;omega
 rw[lU (show([ins,outs,vars].length<=1000000/\(ins++outs++vars).length<=100000000) from⟨by simp,hl⟩)]at e0;have Y:=aop (ins++outs++vars) s;rw[lU hl]at Y;have hv:fO ⟨name,ins,outs,vars,eqs⟩ s=(ins++outs++vars).find? (λv=>v.name==s):=rfl;generalize ins++outs++vars=A at*;rw[hv];cases c:Yi A s with
 |none=>
  have:=akb c;rw[this];have c2:U0 A s= -1:=by rw[U0,c]
  rw[c2]at Y;exact ao (rO @F8.eq_1 @UC.eq_1 e0 Y @K8.eq_1 @Option.getD_none.{0} @GI.{0}) zz
 |some k=>
  obtain⟨v,g1,g2⟩:=aka c;rw[g2];have c2:U0 A s=k:=by rw[U0,c]
  rw[c2]at Y;have hk:=(pc.1 g1).1;have ga:=ag eu g1;exact ao (tM @F8.eq_1 @UC.eq_1 e0 Y ga hk @S1.{0} @OV.{0}) zz
structure sv where
 l:cT
 at_:Int
 m:List cG
 th:List cG
 env:aP
@[reducible] def rX(h:Nat)(v:sv):Ab:=[.sl (v.l.enums.map kF),.sl (v.l.fs.map lf),.int .i64 v.at_,.sl (v.m.map bf),.sl (v.th.map bf),.mp h]
def TX:jJ sv:=⟨λh v=>⟨.loc,6,[rX h v]⟩,λv=>⟨.mp (v.env.map n8),0,[]⟩⟩
theorem aaF:∀x y,n8 x=n8 y->x=y:=by
 rintro⟨a,b⟩ ⟨a',b'⟩ h
 simp only[n8,Ce,J.sl.injEq]at h;obtain⟨rfl,h⟩:=h;rw[sO h]
theorem A4:TX.ok where
 zx m v m' v' h:=by simp[TX,rX]at h;exact h.2.2.2.2.2
 A_ m v v' h h2:=by obtain⟨⟨en,fs⟩,at_,aKK,th,env⟩:=v;obtain⟨⟨en',fs'⟩,aIJ,mm',th',_d⟩:=v';simp only[TX,rX,ae.mk.injEq,DO,J.sl.injEq,J.int.injEq,Kd.mp.injEq,Bt,Xv]at h h2;obtain⟨h3,h4,rfl,h5,h6⟩:=h;rw[map_inj sN _ _ h3,map_inj Dg _ _ h4,map_inj s8 _ _ h5,map_inj s8 _ _ h6,List.map_inj_right (λx y=>aaF x y)|>.1 h2]
 az0 m v k h:=by simp[TX,rX,ae.cut,J.cut,J.qA,h]
 az1 v k:=by simp[TX,ae.cut]
section
variable {B t:List ae} {n m:Nat} {v:sv}
theorem I2(k:gU B n m):(TX.put B n m v++t)[n]? =some ⟨.loc,6,[rX m v]⟩:=jJ.ZM k
theorem gw(k:gU B n m):(TX.put B n m v++t)[m]? =some ⟨.mp (v.env.map n8),0,[]⟩:=jJ.qn k
def OZ{o}:=show(TX.put B n m v++(o::t))[B.length]? =_ from jJ.qw
def A5{o o'}:=show(TX.put B n m v++(o::t)).set B.length o'=_ from jJ.az2
theorem t_(k:gU B n m)(c):(TX.put B n m v++t).set n ⟨.loc,6,[rX m ⟨v.l,v.at_,v.m,c,v.env⟩]⟩=TX.put B n m ⟨v.l,v.at_,v.m,c,v.env⟩++t:=jJ.auX (T:=TX) k rfl
end
theorem kH(env:aP)(s):(Cg s (env.map n8)).getD (.sl [])= .sl (cC (dT env s)):=by rw[azR,dT];cases iP s env<;>rfl
structure SI where
 s:B3
 n:Nat
 m:Nat
 v:sv
theorem XR:tP (λx:gT=>[J.agg (eD x)]):=λx y h=>by simp only[DO,J.agg.injEq,Xv]at h;exact qJ x y (by simp only[eD,DO,Xv];exact h)
noncomputable def x9:=Cc TX (λa:gT=>[.agg (eD a)]) λv a=>(True,.sl (cC (aE v.env a)),v)
theorem dB{B t:List ae}{n m:Nat}{v:sv}(k:gU B n m)(s:B3)(i:Int):x9 [.ptr n 1 0 0,.agg [.str s,.int .i64 i]] (TX.put B n m v++t)=⟨True,.sl (cC (aE v.env (s,i))),TX.put B n m v++t⟩:=uT A4 XR _ k (s,i)
theorem I1:ez Tryz.prog 88 x9:=by
 refine ez.Vp (ps:=[]) (I:=[]) A4 trivial trivial aFE (λ_=>rfl) (λ_ _ _=>rfl) λn m B v a k h=>?_;obtain⟨s,i⟩:=a;by_cases c:s=[]
 .subst c;have h2:aE v.env (([]:B3),i)=[i]:=by simp[aE]
  refine tQ (cL @pk.eq_1 h2 @cC.eq_1) (JJ ?_);all_goals exact⟨_,_,rfl,rfl⟩
 .have h2:aE v.env (s,i)=dT v.env s:=by simp[aE,c]
  refine tQ (rO @pk.eq_1 @I2 k @gw @C3.{0,0} @kH h2) (bV ?_ (JJ ?_))<;>intros;all_goals exact⟨_,_,rfl,rfl⟩
noncomputable def XU:Ab->Prop×J:=cH mH mH λa b=>(b.length<=1000,.bool (decide (a=b)))
def aeI(a)(b:Ba):=show XU [.sl (cC a),.sl (cC b)]=_ from aY nN nN _ a b
theorem anw:aJ Tryz.prog 90 XU:=by
 refine aJ.se (ps:=[]) (I:=[]) trivial trivial aFG λa b h=>?_;have h:b.length<=1000:=h;by_cases c:a.length=b.length;rotate_left
 .have c2:decide (a=b)=false:=by simp;intro e;rw[e]at c;exact c rfl
  exact ao (fj @ju.eq_1 @mH.eq_1 @aU c2) zz
 refine ao (fj @ju.eq_1 @mH.eq_1 @aU c) (JJ ?_);refine aj a (λk (_:Unit)=>⟨[(0,.sl (cC a)),(1,.sl (cC b)),(12,.int .i64 b.length),(13,.int .i64 k)],[]⟩) (λk r _=>decide (r=b.drop k)=decide (a=b)) () (AI _) CT rfl (λk x r _ d U Z E=>?_) (λk _ e E=>?_)
 .obtain⟨y,hy,T7⟩:=eE b (k:=k) (by omega);rw[T7]at E;have d2:k<b.length:=by omega
  refine ao (fF @aU d d2 (LD U) (LD hy)) (bV (λhn=>?_) (JJ (λhn=>?_)))
  .have:=ay5 E (by simpa using hn);simp[this]
  .have e:x=y:=by first|exact hn|simpa using hn
   exact⟨(),CT,by rw[<-E];simp[e]⟩
 .rw[Z8 (by omega)]at E;exact ao (cL e c (CD E)) zz
@[reducible] def aJI(n:Nat):ae:=⟨.loc,1,[[.ptr n 1 0 0]]⟩
def QT(env:aP)(c:gT):Bool:=decide (dT env c.1=[c.2])
structure aKL(α:Type) where
 x:α
 b:Nat
 n:Nat
 m:Nat
 v:sv
theorem aaG:tP (λx:List gT=>[J.sl (x.map eD)]):=λx y h=>by simp only[DO,J.sl.injEq,Xv]at h;exact map_inj qJ x y h
noncomputable def I4:=Cc TX (λon:List gT=>[.sl (on.map eD)]) λv on=>(on.length<=1000,.bool (bn v.env on),v)
theorem aJJ{B t:List ae}{n m:Nat}{v:sv}(k:gU B n m)(on:List gT):I4 [.ptr n 1 0 0,.sl (on.map eD)] (TX.put B n m v++t)=⟨on.length<=1000,.bool (bn v.env on),TX.put B n m v++t⟩:=uT A4 aaG _ k on
theorem aj8:ez Tryz.prog 85 I4:=by
 refine ez.Vp (ps:=[]) (I:=[]) A4 trivial trivial aFt (λ_=>rfl) (λ_ _ _=>rfl) λn m B v on k h=>?_;have h:on.length<=1000:=h;have key:∀l,bn v.env l=l.all (QT v.env):=λ_=>rfl;dsimp only;refine ao @auC.eq_1 (JJ ?_);refine aj on (λj (_:Unit)=>⟨[(0,.ptr n 1 0 0),(1,.sl (on.map eD)),(5,.int .i64 j)],TX.put B n m v++[]⟩) (λj r _=>r.all (QT v.env)=bn v.env on) () trivial CT rfl (λj x r _ d U Z E=>?_) (λj _ e E=>?_)
 .rw[MM]at E;obtain⟨s,i⟩:=x;have ga:=ag eD U;have hh:QT v.env (s,i)=decide (dT v.env s=[i]):=rfl;generalize hV:dT v.env s=V at*;match V with
  |[]=>
   rw[hh,show decide ([]=[i])=false by simp,C4]at E;refine tQ (ey d ga @I2 k @gw @C3.{0,0} @kH hV (bV @cC.eq_1 (CD E))) (JJ ?_);all_goals exact⟨_,_,rfl,rfl⟩
  |[y]=>
   by_cases c:y=i
   .rw[hh,show decide ([y]=[i])=true by simp[c],Pd]at E;refine ao (ey d ga @I2 k @gw @C3.{0,0} @kH hV (bV @cC.eq_1 c)) (JJ ?_);all_goals exact⟨(),CT,E⟩
   .rw[hh,show decide ([y]=[i])=false by simp[c],C4]at E;refine tQ (ey d ga @I2 k @gw @C3.{0,0} @kH hV (bV @cC.eq_1 (CD E))) (JJ (λhn=>?_));all_goals first|exact absurd (by assumption) c|exact⟨_,_,rfl,rfl⟩
  |y::z::w=>
   rw[hh,show decide (y::z::w=[i])=false by simp,C4]at E;have hl:¬((w.length:Int)+1+1=1):=by omega
   refine tQ (ey d ga @I2 k @gw @C3.{0,0} @kH hV (bV @cC.eq_1 (CD E))) (JJ (λhn=>?_));all_goals exact⟨_,_,rfl,rfl⟩
 .rw[C1]at E;refine tQ (bV e (CD E)) (JJ ?_);all_goals exact⟨_,_,rfl,rfl⟩
section
variable {B t g:List ae} {n m:Nat} {v:sv} {o o' x y:ae}
end
def Vx(env:aP)(al:List gT):Prop:=al.length<=1000/\∀a∈al,aE env a≠[]
theorem aaH(o)(x):cC o++[[.int .i64 x]]=cC (o++[x]):=by simp[cC]
theorem ahG:cC ([]:Ba)=[]:=rfl
noncomputable def u_:Ab->List ae->o9:=iY (λ(x:Ba×Nat) a B=>a=[.sl (cC x.1)]/\x.2=B.length) (λx=>(x.1.length<=1000000,.own x.2 x.1.length 0 x.1.length)) λx B=>B++[⟨.aV,1,cC x.1⟩]
theorem ajM(l:Ba)(B:List ae):u_ [.sl (cC l)] B=⟨l.length<=1000000,.own B.length l.length 0 l.length,B++[⟨.aV,1,cC l⟩]⟩:=by
 refine fh (x:=(l,B.length)) ?_ ⟨rfl,rfl⟩
 rintro⟨x1,x2⟩ ⟨y1,y2⟩ a B ⟨rfl,rfl⟩ ⟨h,rfl⟩
 simp only[DO,J.sl.injEq,Xv]at h;rw[sO h]
theorem awE:ez Tryz.prog 28 u_:=by
 refine ez.Vq (ps:=[]) (I:=[]) trivial trivial axF (by rintro x a B ⟨rfl,_⟩;rfl) ?_
 rintro⟨l,L⟩ a B ⟨rfl,rfl⟩ hl
 simp only at hl|-;cases l with
 |nil=>(exact sM (bV @ef.eq_1 @cC.eq_1) zz)
 |cons x r=>
  have E:=uR (x::r);simp only[cC,p0,IS]at E hl|-;exact sM @ef.eq_1 zz
noncomputable def Nw:Ab->Prop×J:=bJ mH λl=>(l.length<=1000000,.sl (cC l))
def yA(l:Ba):=show Nw [.sl (cC l)]=_ from aI nN _ l
theorem Li:aJ Tryz.prog 28 Nw:=by
 refine aJ.mS (ps:=[]) (I:=[]) trivial trivial axF λl hl=>?_;have hl:l.length<=1000000:=hl;cases l with
 |nil=>(exact sM (cL @ef.eq_1 @mH.eq_1 @cC.eq_1) zz)
 |cons x r=>
  have E:=uR (x::r);have ht:∀l:List Ab,List.take l.length l=l:=λl=>VB;have ht2:List.take r.length (List.map (λn:Int=>[J.int .i64 n]) r)=List.map (λn:Int=>[J.int .i64 n]) r:=vc (by simp);simp only[mH,cC,p0,IS]at E hl|-;exact ao (bV @ef.eq_1 ht2) zz
theorem IG:tP (λx:Pl=>[J.agg (iK x)]):=λx y h=>by injection h with h _;injection h with h;exact z8 x y h
def Vy(l:cT):Prop:=∀f∈l.fs,f.ins.length<=1000000/\f.outs.length<=1000000/\f.vars.length<=1000000
def U1(v:sv):Prop:=Vy v.l/\0<=v.at_/\v.at_<v.l.fs.length
theorem IP(x:Int):cC [x]=[[.int .i64 x]]:=rfl
def NC(env:aP)(q:Pl):Ba×Int:=
 if 0<=aZ env (br q 1)/\aZ env (br q 1)<(aE env (br q 0)).length then
  (if q.kind=9 then [(aE env (br q 0)).getD (aZ env (br q 1)).toNat 0]else(aE env (br q 0)).set (aZ env (br q 1)).toNat (aZ env (br q 2)),0)
 else([],16)
def IL(env:aP)(q:Pl):J:=if 0<=aZ env (br q 1)/\aZ env (br q 1)<(aE env (br q 0)).length then .sl (cC (NC env q).1)else .nil
theorem anA(l:Ba)(k)(x):(cC l).set k [.int .i64 x]=cC (l.set k x):=by simp[cC,List.map_set]
theorem v_{l:Ba}{k}(h:k<l.length):(cC l).getD k []=[.int .i64 (l.getD k 0)]:=by simp[cC,List.getD,h]
theorem Rk{v:sv}(h:U1 v):(v.l.fs.map lf).getD v.at_.toNat []=lf (ad v.l v.at_)/\ad v.l v.at_∈v.l.fs/\v.at_.toNat<v.l.fs.length:=by
 obtain⟨_,h1,h2⟩:=h;have h3:v.at_.toNat<v.l.fs.length:=by omega
 have:v.l.fs[v.at_.toNat]? =some (ad v.l v.at_):=by simp[ad,h3]
 exact⟨ag lf this,ed this,h3⟩
def lR(f:Fl)(m:List cG)(env:aP)(q:Pl):J:=
 if(q.kind=9\/q.kind=10)/\¬(0<=aZ env (br q 1)/\aZ env (br q 1)<(aE env (br q 0)).length)then .nil else .sl (cC (aN f m env q).1)
theorem jn{m}(h:kE m):mh m/\∀c∈m,c.path.length<=4503599627370496:=
 ⟨⟨by have:=h.1;omega,λc hc=>by have:=(h.2 c hc).1;omega⟩,λc hc=>by have:=(h.2 c hc).2;omega⟩
end Go.Proofs.YtldnkkkooabaeaaGreat

/- Programs: types: the walk (16), small functions; what the functions between tell, spelled as they are. -/
import Derived.Test.YtldnkkkooabaeaaGreatPgD
import Derived.Test.YtldnkkkooabaeaaGreatStQ
set_option linter.all false
set_option maxRecDepth 20000
namespace Go.Proofs.YtldnkkkooabaeaaGreat
noncomputable section
open Go.Nk
def RX:Ab->Prop×J:=bJ sQ λt=>(True,.bool (lF t))
def L8(t):=show RX [.agg (dE t)]=_ from aI qI _ t
theorem ox:aJ Tryz.prog 181 RX:=by refine aJ.mS (ps:=[]) (I:=[]) trivial trivial aHm λt _=>?_;obtain⟨a,b,c⟩:=t;refine ao (fj @avU.eq_1 @sQ.eq_1 @qi @iW) (JJ ?_);all_goals rfl
def _m:Ab->Prop×J:=bJ sQ λt=>(True,.bool (uM t))
def aAu(t):=show _m [.agg (dE t)]=_ from aI qI _ t
theorem aI2:aJ Tryz.prog 183 _m:=by refine aJ.mS (ps:=[]) (I:=[]) trivial trivial aHo λt _=>?_;obtain⟨a,b,c⟩:=t;refine ao (fj @avX.eq_1 @sQ.eq_1 @qi @iW) (JJ ?_);all_goals rfl
def YD:Ab->Prop×J:=bJ sQ λt=>(True,.agg (dE (F6 t)))
def aAB(t):=show YD [.agg (dE t)]=_ from aI qI _ t
theorem aI4:aJ Tryz.prog 182 YD:=by refine aJ.mS (ps:=[]) (I:=[]) trivial trivial aHn λt _=>?_;obtain⟨a,b,c⟩:=t;refine ao (bV @avW.eq_1 @sQ.eq_1) (JJ ?_);all_goals rfl
def P0:Ab->Prop×J:=bJ rJ λl=>(l.length<=1000,.bool (Jx l))
def aAG(l:List Ty):=show P0 [.sl (l.map dE)]=_ from aI P1 _ l
theorem afG(t)(r:List Ty):Jx (t::r)=r.all λx=>ow x t:=by simp only[Jx,MM,OF,Hm,Pd];congr 1;funext x;rw[iW]
theorem aAH:aJ Tryz.prog 176 P0:=by
 refine aJ.mS (ps:=[]) (I:=[]) trivial trivial aHh λl h=>?_;try dsimp only at h
 have h:l.length<=1000:=h;cases l with
 |nil=>
  refine ao (bV @sB.eq_1 @rJ.eq_1) (JJ ?_);refine aj ([]:List Ty) (λk (_:Unit)=>⟨[(0,.sl []),(3,.int .i64 (k+1))],[]⟩) (λk r _=>True) () (AI _) CT trivial (λk x r _ d U Z E=>?_) (λk _ e E=>?_)
  .exact absurd d (by simp)
  .have e:k=0:=e;subst e;refine ao trivial (JJ ?_);all_goals rfl
 |cons t r=>
  rw[afG];have hl:r.length<=999:=by simpa using h
  have g0:((t::r).map dE).getD 0 []=dE t:=rfl;refine ao (bV @sB.eq_1 @rJ.eq_1) (JJ ?_);refine aj r (λk (_:Unit)=>⟨[(0,.sl ((t::r).map dE)),(3,.int .i64 ((k+1:Nat):Int))],[]⟩) (λk q _=>(r.all λx=>ow x t)=q.all λx=>ow x t) () (AI _) CT rfl (λk x q _ d U Z E=>?_) (λk _ e E=>?_)
  .rw[MM]at E;have gk:(r.map dE).getD k []=dE x:=ag dE U;have h0:(0:Int)<((r.length+1:Nat):Int):=by omega
   have G_:(0:Int)<=((k+1:Nat):Int):=by omega
   have d1:((k+1:Nat):Int)<r.length+1:=by omega
   have hk:((k+1:Nat):Int).toNat=k+1:=GC _;cases hq:ow x t;all_goals(refine ao (jg gk hk hq h0 G_ @qi) (JJ (λhn=>?_)))
   all_goals first|exact⟨(),CT,by rw[E,hq];rfl⟩|(rw[E,hq];rfl)
  .have E:_=true:=E;have d1:¬((k+1:Nat):Int)<r.length+1:=by omega
   rw[E];exact ao trivial zz;all_goals rfl
theorem aAI{z n:Nat}{s:DS}{a:BI}:O7 z s (.load a (.t n))=R0 z s.B (get n s.R):=rfl
theorem abC{z h a b c:Nat}{B:List ae}:R0 z B (.ptr h a b c)=(match B[h]? with|some o=>o.k≠ .dead/\o.z≠z|none=>False):=rfl
def tY(l:List En)(e:Ex):Int×Ty×Bool:=
 if e.kind=1 then(e.n,⟨1,0,0⟩,true)else if e.kind=2 then(e.n,⟨2,0,0⟩,true)
 else if e.kind=5 then(IntKind.i64.wrap (0-(e.ar.getD 0 default).n),⟨1,0,0⟩,true)else((gH l e.name).2.1,(gH l e.name).1,(gH l e.name).2.2)
theorem abD(l)(e):Tc l e=if(tY l e).2.2 then some ((tY l e).1,(tY l e).2.1)else none:=by
 unfold Tc tY;repeat' split
 all_goals simp_all
def YE:Ab->Prop×J:=cH ky gX λl e=>(Gq l/\(e.kind=5->0<e.ar.length),.b9 [.int .i64 (tY l e).1,.agg (dE (tY l e).2.1),.bool (tY l e).2.2])
def aAJ(l:List En)(e:Ex):=show YE [.sl (l.map kF),.agg (cO e)]=_ from aY my gC _ l e
theorem aI5:aJ Tryz.prog 175 YE:=by
 refine aJ.se (ps:=[(104,zc)]) (I:=[]) ⟨cZ,BB⟩ trivial aHg λl e h=>?_;try dsimp only at h
 obtain⟨h1,h2⟩:=h;have Y:=oP l e.name;rw[lU h1]at Y;by_cases k5:e.kind=5
 .have g0:=ag cO (iU (h2 k5));have h3:(0:Int)<e.ar.length:=by have:=h2 k5;omega
  have hg:=ai (e.ar.getD 0 default);have hz:tY l e=(IntKind.i64.wrap (0-(e.ar.getD 0 default).n),⟨1,0,0⟩,true):=by simp[tY,k5]
  rw[hz];generalize e.ar.getD 0 default=x at*;rw[hg]at g0;exact ao (rO @ni.eq_1 @ky.eq_1 @gX.eq_1 (ai e) k5 g0 h3) zz;all_goals rfl
 .have hz:tY l e=if e.kind=1 then(e.n,⟨1,0,0⟩,true)else if e.kind=2 then(e.n,⟨2,0,0⟩,true)else((gH l e.name).2.1,(gH l e.name).1,(gH l e.name).2.2):=by simp only[tY,k5,Bv]
  rw[hz];refine ao (fF @ni.eq_1 @ky.eq_1 @gX.eq_1 (ai e) Y) (cL ?_ ?_ (JJ ?_))<;>intros;all_goals(simp_all;done)
theorem aku{l}{first}{t}{x}{r}:rS l first t (x::r)=if(tY l x).2.2=false\/(first=false/\(tY l x).2.1≠t)then none else(rS l false (tY l x).2.1 r).map λy=>((tY l x).1::y.1,y.2):=by rw[rS,abD];cases (tY l x).2.2<;>simp
def Jy(n:Int):Ab:=[.int .i64 n]
abbrev eNs:Ba->J:=eL Jy
theorem Gs{e x:Ex}(h:eG e=true)(U:x∈e.ar):eG x=true:=by simp only[eG,ab,ir,BE]at h|-;have h1:=Gz (qa U x (jz x));exact⟨by omega,λy hy=>h.2 y (qa U y hy)⟩
theorem Cs{e:Ex}(h:eG e=true):e.ar.length<=200:=by simp only[eG,ab,ir]at h;have h3:=jm e.ar;have h4:=jX e;omega
theorem aAK{e}(h:nj e=true):∀x∈az e,fi x=true:=by simp only[nj,ab,BE]at h;exact h.2
def _n:Option Ty->List ae
 |none=>[]
 |some t=>[⟨.loc,3,[dE t]⟩]
theorem zf:_n none=[]:=rfl
theorem qS(t:Ty):_n (some t)=[⟨.loc,3,[[.int .i64 t.k,.int .i64 t.e,.int .i64 t.n]]⟩]:=rfl
def Jl:Ab->Prop×J:=cH ky gX λl e=>(Gq l/\eG e=true,.b9 [.sl (((dG l e).getD ([],⟨0,0,0⟩)).1.map Jy),.agg (dE ((dG l e).getD ([],⟨0,0,0⟩)).2),.bool (dG l e).isSome])
def Cn(l:List En)(e):=show Jl [.sl (l.map kF),.agg (cO e)]=_ from aY my gC _ l e
theorem aAL:aJ Tryz.prog 158 Jl:=by
 refine aJ.se (ps:=[(173,Jz),(174,JA),(175,YE)]) (I:=[]) ⟨ayX,ayT,aI5,BB⟩ trivial aG0 λl e h=>?_;try dsimp only at h
 obtain⟨hE,hS⟩:=h;have Xh:=Cs hS;have Y:=ayW e;have e2:=ayS e;rw[lU hS]at Y;rw[lU (show e.ar.length<=1000000000 by omega)]at e2;simp only[ai e]at Y e2;by_cases c:(nj e&&vF e)=true;rotate_left
 .have hz:dG l e=none:=by unfold dG;rw[gr (by revert c;cases nj e<;>cases vF e<;>simp)]
  rw[hz];refine ao (jg @lG.eq_1 @ky.eq_1 @gX.eq_1 (ai e) Y e2) (fj ?_ ?_ ?_ (JJ ?_))<;>intros;all_goals first|rfl|(exfalso;simp_all;done)
 simp only[ab]at c;obtain⟨c1,c2⟩:=c;rw[c1]at Y;rw[c2]at e2;have B:=aAK c1;have Dk:=dW (B e (jz e));by_cases F7:e.kind=14;rotate_left
 .have hz:dG l e=if(tY l e).2.2=true then some ([(tY l e).1],(tY l e).2.1)else none:=by unfold dG;rw[c1,c2,ba (by simp),gr F7,abD];cases (tY l e).2.2<;>rfl
  rw[hz];have e3:=aAJ l e;rw[lU (show Gq l/\(e.kind=5->0<e.ar.length) from⟨hE,λhh=>by obtain⟨a,ha⟩:=Dk.1 (.inl hh);rw[ha];simp⟩)]at e3;simp only[ai e]at e3;cases hb:(tY l e).2.2<;>rw[hb]at e3;all_goals(refine ao (rO @lG.eq_1 @ky.eq_1 @gX.eq_1 (ai e) Y e2 e3) (JJ (λhn=>?_)))
  all_goals rfl
 have hz:dG l e=(rS l true ⟨0,0,0⟩ e.ar).map λx=>(x.1,⟨x.2.k,x.2.e,x.1.length⟩):=by unfold dG;rw[c1,c2,ba (by simp),ba (by simpa using F7)]
 rw[hz];have e3:∀x∈e.ar,YE [.sl (l.map kF),.agg (cO x)]=(True,.b9 [.int .i64 (tY l x).1,.agg (dE (tY l x).2.1),.bool (tY l x).2.2]):=λx U=>by have:=aAJ l x;rw[lU (show Gq l/\(x.kind=5->0<x.ar.length) from⟨hE,λhh=>by obtain⟨a,ha⟩:=(dW (B x (qa U x (jz x)))).1 (.inl hh);rw[ha];simp⟩)]at this;exact this
 rw[F7]at Y e2;refine ao (rO @lG.eq_1 @ky.eq_1 @gX.eq_1 (ai e) Y e2 F7) (JJ ?_);refine aj e.ar (λk (x:Ba×Ty×Option Ty)=>⟨[(0,.sl (l.map kF)),(3,.ref (cO e)),(5,.ptr 0 1 0 0),(10,.own 1 x.1.length 0 x.1.length),(11,.ptr 2 1 0 0),(12,.int .i64 k)],[⟨.loc,3,[dE ⟨0,0,0⟩]⟩,⟨.aV,1,x.1.map Jy⟩,⟨.loc,3,[dE x.2.1]⟩]++_n x.2.2⟩)
  (λk r x=>x.1.length=k/\rS l true ⟨0,0,0⟩ e.ar=(rS l (decide (k=0)) x.2.1 r).map λy=>(x.1++y.1,y.2)) ([],⟨0,0,0⟩,none) (by decide) (CF (cL (ai e) F7 @zf)) ⟨rfl,?_⟩ (λk x r a d U Z E=>?_) (λk a ek E=>?_)
 .show _=Option.map _ (rS l true ⟨0,0,0⟩ e.ar);cases rS l true ⟨0,0,0⟩ e.ar<;>rfl
 .obtain⟨out,ft,jk⟩:=a;obtain⟨hlen,E⟩:=E;dsimp only at hlen E;rw[aku]at E;have e4:=e3 x (ed U);have hg:=ai x;simp only[hg]at e4;have gx:=ag cO U;rw[hg]at gx;generalize tY l x=q at*;obtain⟨q1,⟨q2,q3,q4⟩,q5⟩:=q;obtain⟨f1,f2,f3⟩:=ft;cases q5
  .rw[gr (.inl rfl)]at E;rw[E];rcases jk with _|⟨j1,j2,j3⟩;all_goals(refine ao (rO (ai e) d gx e4 F7 @zf @qS) (JJ ?_))
   all_goals rfl
  cases k with
  |zero=>
   rw[ba (by simp)]at E;rcases jk with _|⟨j1,j2,j3⟩;all_goals(refine ao (tM (ai e) gx e4 F7 @zf @qS @aAI @abC) (JJ (λhn=>?_)))
   .exact⟨(out++[q1],⟨q2,q3,q4⟩,some ⟨q2,q3,q4⟩),(CF (cL @IN.{0,0} @Jy.eq_1 @qS)),by simp[hlen],by rw[E];cases rS l false ⟨q2,q3,q4⟩ r<;>simp⟩
   .exact⟨(out++[q1],⟨q2,q3,q4⟩,some ⟨j1,j2,j3⟩),(CF (cL @IN.{0,0} @Jy.eq_1 @qS)),by simp[hlen],by rw[E];cases rS l false ⟨q2,q3,q4⟩ r<;>simp⟩
  |succ k=>
   have Q8:((k+1:Nat):Int)>0:=by omega
   by_cases hq:(⟨q2,q3,q4⟩:Ty)=⟨f1,f2,f3⟩;rotate_left
   .rw[gr (.inr ⟨rfl,hq⟩)]at E;have hb:ow ⟨q2,q3,q4⟩ ⟨f1,f2,f3⟩=false:=by rw[iW];exact Z7 hq
    rw[E];rcases jk with _|⟨j1,j2,j3⟩;all_goals(refine ao (ey (ai e) d gx e4 F7 Q8 hb @zf (bV @qS @qi)) (JJ ?_))
    all_goals rfl
   rw[ba (by simp[hq])]at E;have hb:ow ⟨q2,q3,q4⟩ ⟨f1,f2,f3⟩=true:=by rw[iW];exact ON hq
   rcases jk with _|⟨j1,j2,j3⟩;all_goals(refine ao (ey (ai e) d gx e4 F7 Q8 hb @zf (fj @qS @aAI @abC @qi)) (JJ ?_))
   .exact⟨(out++[q1],⟨q2,q3,q4⟩,some ⟨q2,q3,q4⟩),(CF (cL @IN.{0,0} @Jy.eq_1 @qS)),by simp[hlen],by rw[E];cases rS l false ⟨q2,q3,q4⟩ r<;>simp⟩
   .exact⟨(out++[q1],⟨q2,q3,q4⟩,some ⟨j1,j2,j3⟩),(CF (cL @IN.{0,0} @Jy.eq_1 @qS)),by simp[hlen],by rw[E];cases rS l false ⟨q2,q3,q4⟩ r<;>simp⟩
 .obtain⟨out,ft,jk⟩:=a;obtain⟨hlen,E⟩:=E;dsimp only at hlen E;have E:rS l true ⟨0,0,0⟩ e.ar=some (out++[],ft):=E;rw[xz]at E;rw[E];obtain⟨f1,f2,f3⟩:=ft;have ED:(out.map Jy).take e.ar.length=out.map Jy:=vc (by simp;omega);rcases jk with _|⟨j1,j2,j3⟩;all_goals(refine ao (rO (ai e) ek F7 ED hlen @zf @qS) (JJ ?_))
  all_goals rfl
def vO(l:List En)(t:Ty):Prop:=t.k=3->t.n=0->0<=t.e/\t.e<l.length
theorem akv{l}{t}(h:bg l t=true):vO l t:=λhk _=>by simp only[bg,ab,ir,hk,Bp]at h;exact h.2
theorem akw{x y:B3}{a b:BS}:(x::a==y::b)=(x==y&&a==b):=by rfl
def YF:Ab->Prop×J:=fp ky sQ Ec λl t a=>(Gq l/\vO l t/\a.length<=1000000,.bool (JB l t a))
def afI(l:List En)(t)(a:BS):=show YF [.sl (l.map kF),.agg (dE t),.sl (cW a)]=_ from bW my qI aoW _ l t a
theorem aI6:aJ Tryz.prog 177 YF:=by
 refine aJ.zP (ps:=[(181,RX)]) (I:=[]) ⟨ox,BB⟩ trivial aHi λl t a h=>?_;try dsimp only at h
 obtain⟨h1,h2,h3⟩:=h;have Y:=L8 t;obtain⟨tk,te,tn⟩:=t;simp only[dE]at Y;cases ht:lF ⟨tk,te,tn⟩;rotate_left
 .rw[ht]at Y;have hz:JB l ⟨tk,te,tn⟩ a=(a==[[116,114,117,101],[102,97,108,115,101]]):=by rw[JB,gr ht]
  rw[hz];match a with
  |[]=>(refine ao (jg @dS.eq_1 @ky.eq_1 @Ec.eq_1 @sQ.eq_1 @ak Y) (JJ ?_))
       all_goals rfl
  |[x]=>(refine ao (jg @dS.eq_1 @ky.eq_1 @Ec.eq_1 @sQ.eq_1 @ak Y) (JJ ?_))
        all_goals simp
  |[x,y]=>
   have g0:(cW [x,y]).getD 0 []=[.str x]:=rfl;have g1:(cW [x,y]).getD 1 []=[.str y]:=rfl;refine ao (tM @dS.eq_1 @ky.eq_1 @Ec.eq_1 @sQ.eq_1 @ak Y g0 g1) (bV ?_ (JJ ?_))<;>intros;all_goals simp_all
  |x::y::z::r=>
   have hc:¬(((x::y::z::r).length:Nat):Int)=2:=by simp only[IS];omega
   refine ao (jg @dS.eq_1 @ky.eq_1 @Ec.eq_1 @sQ.eq_1 @ak Y) (JJ (λhn=>?_));all_goals simp
 rw[ht]at Y;have hz:JB l ⟨tk,te,tn⟩ a=if tk≠3\/tn≠0 then false else a==(l.getD te.toNat default).ct:=by rw[JB,ba (by rw[ht];simp)]
 rw[hz];by_cases c:tk≠3\/tn≠0
 .rw[gr c];by_cases c1:tk=3
  .have c2:¬tn=0:=by omega
   rw[c1]at Y;exact ao (jg @dS.eq_1 @ky.eq_1 @Ec.eq_1 @sQ.eq_1 Y c1) zz
  .exact ao (fF @dS.eq_1 @ky.eq_1 @Ec.eq_1 @sQ.eq_1 Y) zz
 have c1:tk=3:=by omega
 have c2:tn=0:=by omega
 obtain⟨i1,i2⟩:=h2 c1 c2;dsimp only at i1 i2;obtain⟨m,rfl⟩:=Cy i1;rw[ba c];have hm:m<l.length:=by omega
 have gm:=ag kF (iU hm);simp only[GC];generalize l.getD m default=en at*;rw[c1,c2]at Y;by_cases c3:a.length=en.ct.length;rotate_left
 .have hb:(a==en.ct)=false:=by rw[SO];intro hh;exact c3 (by rw[hh])
  have GD:¬(a.length:Int)=en.ct.length:=by omega
  rw[hb];exact ao (ey @dS.eq_1 @ky.eq_1 @Ec.eq_1 @sQ.eq_1 @ak Y c1 c2 (bV i2 gm)) zz;all_goals rfl
 have GD:(a.length:Int)=en.ct.length:=by omega
 refine ao (ey @dS.eq_1 @ky.eq_1 @Ec.eq_1 @sQ.eq_1 @ak Y c1 c2 (cL i2 gm GD)) (JJ ?_);refine aj a (λj (_:Unit)=>⟨[(0,.sl (l.map kF)),(2,.sl (cW a)),(4,.ref (dE ⟨3,m,0⟩)),(7,.int .i64 j)],[]⟩) (λj r _=>(a==en.ct)=(r==en.ct.drop j)) () (AI _) CT rfl (λj x r _ d U Z E=>?_) (λj _ e E=>?_)
 .have dj:j<en.ct.length:=by omega
  have hy:=tx dj;generalize en.ct[j]=y at*;have He:en.ct.drop j=y::en.ct.drop (j+1):=by obtain⟨z,q1,q2⟩:=eE en.ct dj;rw[q1]at hy;injection hy with hy;subst hy;obtain⟨w1,w2⟩:=pc.1 q1;rw[Hk dj,w2]
  rw[He,akw]at E;have g1:=fN U;have g2:=fN hy;have d':(j:Int)<en.ct.length:=by omega
  refine ao (rO @ak i2 gm g1 g2 d dj) (bV (λhn=>?_) (JJ (λhn=>?_)));all_goals first
   |exact⟨(),CT,by rw[E];simp[hn]⟩
   |(rw[E];simp[hn];done)
 .have He:en.ct.drop j=[]:=Z8 (by omega);rw[He]at E;have E:_=true:=E;rw[E];exact ao (cL @ak e c3) zz;all_goals rfl
theorem aAM{d:tN}{l:List tN}{t:Ty}{r:List Ty}:R9 (d::l) (t::r)=(decide (d.ty=t)&&R9 l r):=rfl
def PZ:Ab->Prop×J:=fp bA gX rJ λp e t=>(bF p=true/\(e.n=0\/e.n=1)/\t.length<=1000,.b9 [.int .i64 (((vC p e t).getD 0:Nat):Int),.bool (vC p e t).isSome])
def aAN(p)(e:Ex)(t:List Ty):=show PZ [.agg (cE p),.agg (cO e),.sl (t.map dE)]=_ from bW dY gC P1 _ p e t
theorem aAO:aJ Tryz.prog 178 PZ:=by
 refine aJ.zP (ps:=[(157,Jk),(181,RX)]) (I:=[]) ⟨px,ox,BB⟩ trivial aHj λp e t h=>?_;try dsimp only at h
 obtain⟨h1,h2,h3⟩:=h;have Y:=Gn p e.name;rw[lU h1]at Y;by_cases c1:jx p e.name<0
 .have hz:vC p e t=none:=by rw[vC,gr c1]
  rw[hz];refine ao (rO @iy.eq_1 @gX.eq_1 @bA.eq_1 @rJ.eq_1 (ai e) Y c1) (JJ ?_);all_goals rfl
 obtain⟨m,hm⟩:=Cy (show 0<=jx p e.name by omega);obtain⟨g,hg⟩:=zd hm;have Hf:=ag fe hg;have hng:=fU hg;have _o:=(pc.1 hg).1;have Xe:=(fE h1).2 g (ed hg);have Ua:=(fE h1).1;obtain⟨l1,_⟩:=dz Xe;have hz:vC p e t=if(t.length:Int)-e.n≠g.ins.length\/(e.n=1/\lF (t.getD (t.length-e.n.toNat) default)=false)then none
  else if R9 g.ins t then some m else none:=by
  rw[vC,ba c1,hm,GC,hng]
 rw[hz];rw[hm]at Y;have L7:(m:Int)<p.nodes.length:=by omega
 have AZ:¬(m:Int)<0:=by omega
 by_cases c2:(t.length:Int)-e.n=g.ins.length;rotate_left
 .rw[gr (.inl c2)];refine ao (ey @iy.eq_1 @gX.eq_1 @bA.eq_1 @rJ.eq_1 (ai e) Y @AZ Hf L7) (JJ (λhn=>?_));all_goals rfl
 rcases h2 with h2|h2
 .rw[ba (by rw[h2];rintro(hh|⟨hh,_⟩);exact hh (by rw[<-h2];exact c2);exact absurd hh (by decide))];have HR:(t.length:Int)=g.ins.length:=by omega
  refine ao (ey @iy.eq_1 @gX.eq_1 @bA.eq_1 @rJ.eq_1 (ai e) h2 Y @AZ (cL Hf L7 HR)) (JJ (λhn=>?_));refine aj g.ins (λj (_:Unit)=>⟨[(2,.sl (t.map dE)),(3,.ref (cE p)),(8,.int .i64 m),(9,.int .i64 g.ins.length),(10,.int .i64 j)],[]⟩) (λj r _=>R9 g.ins t=R9 r (t.drop j)) () (AI _) CT rfl (λj x r _ d U Z E=>?_) (λj _ e E=>?_)
  .have dj:j<t.length:=by omega
   obtain⟨y,q1,q2⟩:=eE t dj;rw[q2,aAM]at E;have g1:=ag gG U;have g2:=ag dE q1;obtain⟨nm,ty,on,ct⟩:=x;obtain⟨x1,x2,x3⟩:=ty;obtain⟨y1,y2,y3⟩:=y;dsimp only at E;rw[<-iW]at E;cases hq:ow ⟨x1,x2,x3⟩ ⟨y1,y2,y3⟩;all_goals(refine ao (tM Hf L7 g1 g2 d dj hq @qi) (JJ ?_))
   all_goals first
    |exact⟨(),CT,by rw[E,hq,Pd]⟩
    |(rw[E,hq];exact⟨rfl,rfl⟩)
  .have E:R9 g.ins t=true:=by rw[E];rfl
   rw[gr E];refine ao @e (JJ ?_);all_goals rfl
 rw[h2]at c2;have QM:((t.length:Int)-1).toNat=t.length-1:=by omega
 have yH:(g.ins.length:Int).toNat=g.ins.length:=GC _;have mP:g.ins.length<t.length:=by omega
 have q1:=ag dE (iU mP);have q2:=L8 (t.getD g.ins.length default);have Ud:t.length-(1:Int).toNat=g.ins.length:=by omega
 have FR:(g.ins.length:Int)<t.length:=by omega
 simp only[h2,Ud];generalize t.getD g.ins.length default=aI7 at*;obtain⟨t1,t2,t3⟩:=aI7;simp only[dE]at q1 q2;by_cases c3:lF ⟨t1,t2,t3⟩=false
 .rw[gr (.inr ⟨BB,c3⟩)];rw[c3]at q2;refine ao (ey @iy.eq_1 @gX.eq_1 @bA.eq_1 @rJ.eq_1 (ai e) h2 Y @AZ (jg Hf L7 c2 q1 q2 mP)) (JJ ?_);all_goals rfl
 .rw[ba (by rintro(hh|⟨_,hh⟩);exact hh c2;exact c3 hh)];have c3:lF ⟨t1,t2,t3⟩=true:=by simpa using c3
  rw[c3]at q2;refine ao (ey @iy.eq_1 @gX.eq_1 @bA.eq_1 @rJ.eq_1 (ai e) h2 Y @AZ (jg Hf L7 c2 q1 q2 mP)) (JJ ?_);refine aj g.ins (λj (_:Unit)=>⟨[(2,.sl (t.map dE)),(3,.ref (cE p)),(8,.int .i64 m),(9,.int .i64 g.ins.length),(10,.int .i64 j)],[]⟩) (λj r _=>R9 g.ins t=R9 r (t.drop j)) () (AI _) CT rfl (λj x r _ d U Z E=>?_) (λj _ e E=>?_)
  .have dj:j<t.length:=by omega
   obtain⟨y,q1,q2⟩:=eE t dj;rw[q2,aAM]at E;have g1:=ag gG U;have g2:=ag dE q1;obtain⟨nm,ty,on,ct⟩:=x;obtain⟨x1,x2,x3⟩:=ty;obtain⟨y1,y2,y3⟩:=y;dsimp only at E;rw[<-iW]at E;cases hq:ow ⟨x1,x2,x3⟩ ⟨y1,y2,y3⟩;all_goals(refine ao (tM Hf L7 g1 g2 d dj hq @qi) (JJ ?_))
   all_goals first
    |exact⟨(),CT,by rw[E,hq,Pd]⟩
    |(rw[E,hq];exact⟨rfl,rfl⟩)
  .have E:R9 g.ins t=true:=by rw[E];rfl
   rw[gr E];refine ao @e (JJ ?_);all_goals rfl
def E5(p:fc)(i:Int)(e:Ex):Prop:=R6 p i/\kL p=0/\eG e=true/\∀x∈az e,fi x=true/\p8 p i.toNat x=true
theorem E5.sub{p}{i}{e x:Ex}(h:E5 p i e)(U:x∈e.ar):E5 p i x:=⟨h.1,h.2.1,Gs h.2.2.1 U,λy hy=>h.2.2.2 y (qa U y hy)⟩
def E5.self{p}{i:Int}{e}(h:E5 p i e):=show fi e=true/\p8 p i.toNat e=_ from h.2.2.2 e (jz e)
theorem E5.ty{p:fc}{i:Int}{e}(h:E5 p i e){s}{d:tN}(Z:fv (nodeAt p i.toNat) s=some d):vO p.en d.ty:=by obtain⟨_,_,_,_,h5,_⟩:=nR h.2.1;obtain⟨h1,h2,h3⟩:=h.1;have hm:nodeAt p i.toNat∈p.nodes:=ed (iU (by omega));have h4:=h5 _ hm;simp only[ov,ab,BE,vG]at h4;exact akv (h4.1.1.1.1 d (sC Z).1).1.2
def Sa:Ab->Prop×J:=cH gX rJ λe t=>(fi e=true/\(e.kind=5\/e.kind=6\/e.kind=7\/e.kind=14\/e.kind=15\/e.kind=16)/\t.length=e.ar.length,.b9 [.agg (dE (lH e t).1),.bool (lH e t).2])
def abE(e:Ex)(t:List Ty):=show Sa [.agg (cO e),.sl (t.map dE)]=_ from aY gC P1 _ e t
theorem aI8:aJ Tryz.prog 163 Sa:=by
 refine aJ.se (ps:=[(179,YG),(180,Sb),(181,RX),(182,YD),(176,P0),(183,_m)]) (I:=[]) ⟨aIV,aIW,ox,aI4,aAH,aI2,BB⟩ trivial aG5 λe t h=>?_;try dsimp only at h
 obtain⟨h1,h2,h3⟩:=h;obtain⟨p1,p2,p3,_⟩:=dW h1;have hl:=oQ h1;rcases h2 with k|k|k|k|k|k
 .obtain⟨a,ha⟩:=p1 (.inl k);obtain⟨x,rfl⟩:∃x,t=[x]:=by rw[ha]at h3;exact MF.1 h3
  have hz:lH e [x]=xb e.op x:=by simp[lH,k]
  have Y:=afJ e.op x;rw[hz];have g0:([x].map dE).getD 0 []=dE x:=rfl;generalize xb e.op x=r at*;exact ao (jg @fB.eq_1 @gX.eq_1 @rJ.eq_1 (ai e) k Y) zz
 .obtain⟨a,b,ha⟩:=p2 (.inl k);obtain⟨x,y,rfl⟩:∃x y,t=[x,y]:=by rw[ha]at h3;exact R7 h3
  have hz:lH e [x,y]=dV e.op x y:=by simp[lH,k]
  have Y:=abG e.op x y;rw[hz];have g0:([x,y].map dE).getD 0 []=dE x:=rfl;have g1:([x,y].map dE).getD 1 []=dE y:=rfl;generalize dV e.op x y=r at*;exact ao (jg @fB.eq_1 @gX.eq_1 @rJ.eq_1 (ai e) k Y) zz
 .obtain⟨a,b,c,ha⟩:=p3 (.inl k);obtain⟨x,y,z,rfl⟩:∃x y z,t=[x,y,z]:=by rw[ha]at h3;exact eo h3
  have hz:lH e [x,y,z]=(y,lF x&&ow y z):=by rw[iW];simp[lH,k]
  have Y:=L8 x;rw[hz];have g0:([x,y,z].map dE).getD 0 []=dE x:=rfl;have g1:([x,y,z].map dE).getD 1 []=dE y:=rfl;have g2:([x,y,z].map dE).getD 2 []=dE z:=rfl;exact ao (rO @fB.eq_1 @gX.eq_1 @rJ.eq_1 (ai e) k Y @qi) zz
 .obtain⟨a1,a2⟩:=(dW h1).2.2.2.2.2.1 k;have hz:lH e t=(⟨(t.getD 0 default).k,(t.getD 0 default).e,t.length⟩,Jx t&&decide ((t.getD 0 default).n=0)):=by simp[lH,k]
  have Y:=aAG t;rw[lU (show t.length<=1000 by omega)]at Y;rw[hz];have h0:0<t.length:=by omega
  have g0:=ag dE (iU h0);have h9:t.length<=8:=by omega
  generalize t.getD 0 default=x at*;refine ao (rO @fB.eq_1 @gX.eq_1 @rJ.eq_1 (ai e) k Y g0) (JJ (λhn=>?_));all_goals rfl
 .obtain⟨a,b,ha⟩:=p2 (.inr (.inr (.inr k)));obtain⟨x,y,rfl⟩:∃x y,t=[x,y]:=by rw[ha]at h3;exact R7 h3
  have hz:lH e [x,y]=(F6 x,decide (0<x.n)&&uM y):=by simp[lH,k]
  have Y:=aAB x;have e2:=aAu y;rw[hz];have g0:([x,y].map dE).getD 0 []=dE x:=rfl;have g1:([x,y].map dE).getD 1 []=dE y:=rfl;exact ao (rO @fB.eq_1 @gX.eq_1 @rJ.eq_1 (ai e) k Y e2) zz
 .obtain⟨a,b,c,ha⟩:=p3 (.inr k);obtain⟨x,y,z,rfl⟩:∃x y z,t=[x,y,z]:=by rw[ha]at h3;exact eo h3
  have hz:lH e [x,y,z]=(x,decide (0<x.n)&&uM y&&ow z (F6 x)):=by rw[iW];simp[lH,k]
  have Y:=aAB x;have e2:=aAu y;rw[hz];have g0:([x,y,z].map dE).getD 0 []=dE x:=rfl;have g1:([x,y,z].map dE).getD 1 []=dE y:=rfl;have g2:([x,y,z].map dE).getD 2 []=dE z:=rfl;exact ao (tM @fB.eq_1 @gX.eq_1 @rJ.eq_1 (ai e) k Y e2 @qi) zz
def YH:Ab->Prop×J:=E4 bA eI gX rJ λp i e t=>(E5 p i e/\9<=e.kind/\e.kind<=13/\t.length=e.ar.length,.b9 [.agg (dE (nk p i.toNat e t).1),.bool (nk p i.toNat e t).2])
def afK(p)(i:Int)(e:Ex)(t:List Ty):=show YH [.agg (cE p),.int .i64 i,.agg (cO e),.sl (t.map dE)]=_ from yS dY cF gC P1 _ p i e t
theorem _p{e:Ex}(h:fi e=true)(k:e.kind=11):∃a,e.arms=[a]:=by simp only[fi,ab,ir]at h;have vL:=h.1.1.1.2;simp only[E8,k]at vL;simp at vL;exact MF.1 vL.2
theorem aI9:aJ Tryz.prog 162 YH:=by
 refine aJ.QI (ps:=[(132,w8),(104,zc),(176,P0),(177,YF),(178,PZ)]) (I:=[]) ⟨gO,cZ,aAH,aI6,aAO,BB⟩ trivial aG4 λp i e t h=>?_;try dsimp only at h
 obtain⟨hX,k9,Jc,h3⟩:=h;obtain⟨h1,hpf⟩:=hX.self;have hP:=hX.1.1;have hE:=vu hP;have aAs:=λ(d:tN) (Z:fv (nodeAt p i.toNat) e.name=some d)=>hX.ty Z;obtain⟨n,rfl,hk,hn,I,Ua⟩:=Gv hX.1;simp only[GC]at aAs|-;obtain⟨p1,p2,p3,p4,p5,p6,p7⟩:=dW h1;have yK:(n:Int)<p.nodes.length:=by omega
 by_cases c9:e.kind=9
 .obtain⟨a,b,ha⟩:=p2 (.inr (.inr (.inl c9)));obtain⟨x,y,rfl⟩:∃x y,t=[x,y]:=by rw[ha]at h3;exact R7 h3
  have hz:nk p n e [x,y]=(x,ow x y):=by rw[iW];simp[nk,c9]
  rw[hz];have g0:([x,y].map dE).getD 0 []=dE x:=rfl;have g1:([x,y].map dE).getD 1 []=dE y:=rfl;exact ao (rO @da.eq_1 @gX.eq_1 @bA.eq_1 @rJ.eq_1 (ai e) c9 @qi) zz
 by_cases VW:e.kind=10
 .obtain⟨a,ha⟩:=p1 (.inr (.inl VW));obtain⟨x,rfl⟩:∃x,t=[x]:=by rw[ha]at h3;exact MF.1 h3
  have hz:nk p n e [x]=(x,true):=by simp[nk,VW]
  rw[hz];have g0:([x].map dE).getD 0 []=dE x:=rfl;exact ao (jg @da.eq_1 @gX.eq_1 @bA.eq_1 @rJ.eq_1 (ai e) VW) zz
 have Y:=pA (nodeAt p n) e.name;rw[lU I]at Y;by_cases UU:e.kind=11
 .obtain⟨a,ha⟩:=p1 (.inr (.inr UU));obtain⟨x,rfl⟩:∃x,t=[x]:=by rw[ha]at h3;exact MF.1 h3
  obtain⟨m,hm⟩:=_p h1 UU;have g0:([x].map dE).getD 0 []=dE x:=rfl;have g1:(cW e.arms).getD 0 []=[.str m]:=by rw[hm];rfl
  have g2:(0:Int)<e.arms.length:=by rw[hm];simp
  have e2:=oP p.en m;rw[lU hE]at e2;have e3:nP p.en m=(gH p.en m).2.2:=rfl;cases Z:fv (nodeAt p n) e.name with
  |none=>
   have hz:nk p n e [x]=(x,false):=by simp[nk,UU,Z]
   rw[hz];rw[Z]at Y;dsimp only[Option.isSome]at Y;exact ao (ey @da.eq_1 @gX.eq_1 @bA.eq_1 @rJ.eq_1 @ak (ai e) UU Y (fF e2 hn yK g1 g2)) zz
  |some d=>
   have hz:nk p n e [x]=(x,(gH p.en m).2.2&&ow (gH p.en m).1 d.ty):=by rw[iW];simp[nk,UU,hm,Z,e3]
   rw[hz];rw[Z]at Y;dsimp only[Option.isSome,Option.getD]at Y;generalize gH p.en m=r at*;obtain⟨⟨r1,r2,r3⟩,r4,r5⟩:=r;exact ao (ey @da.eq_1 @gX.eq_1 @bA.eq_1 @rJ.eq_1 @ak (ai e) UU Y (jg e2 hn yK g1 g2 @qi)) zz
 by_cases O4:e.kind=12
 .obtain⟨a1,a2,a3⟩:=p4 O4;have h0:0<t.length:=by omega
  have h9:t.length<=8:=by omega
  have g0:=ag dE (iU h0);have e2:=aAG t;rw[lU (show t.length<=1000 by omega)]at e2;cases Z:fv (nodeAt p n) e.name with
  |none=>
   have hz:nk p n e t=(t.getD 0 default,false):=by simp[nk,O4,Z]
   rw[hz];generalize t.getD 0 default=x at*;rw[Z]at Y;dsimp only[Option.isSome]at Y;exact ao (ey @da.eq_1 @gX.eq_1 @bA.eq_1 @rJ.eq_1 (ai e) O4 Y hn (bV yK g0)) zz
  |some d=>
   have hz:nk p n e t=(t.getD 0 default,Jx t&&JB p.en d.ty e.arms):=by simp[nk,O4,Z]
   rw[hz];generalize t.getD 0 default=x at*;rw[Z]at Y;dsimp only[Option.isSome,Option.getD]at Y;have e3:=afI p.en d.ty e.arms;rw[lU (show Gq p.en/\vO p.en d.ty/\e.arms.length<=1000000 from⟨hE,aAs d Z,by omega⟩)]at e3;exact ao (ey @da.eq_1 @gX.eq_1 @bA.eq_1 @rJ.eq_1 (ai e) O4 Y e2 (fj e3 hn yK g0)) zz
 have Yy:e.kind=13:=by omega
 obtain⟨a1,a2,a3⟩:=p5 Yy;have e2:=aAN p e t;rw[lU (show bF p=true/\(e.n=0\/e.n=1)/\t.length<=1000 from⟨hP,a3,by omega⟩)]at e2;simp only[ai e,Yy]at e2;cases hc:vC p e t with
 |none=>
  have hz:nk p n e t=(⟨0,0,0⟩,false):=by simp[nk,c9,VW,UU,O4,hc]
  rw[hz];rw[hc]at e2;dsimp only[Option.isSome,Option.getD]at e2|-;exact ao (ey @da.eq_1 @gX.eq_1 @bA.eq_1 @rJ.eq_1 (ai e) Yy Y e2 (bV hn yK)) zz
 |some m=>
  rw[hc]at e2;dsimp only[Option.isSome,Option.getD]at e2|-;obtain⟨q1,_⟩:=Cv hc;obtain⟨g,hg⟩:=zd q1;have Hf:=ag fe hg;have hz:nk p n e t=if g.outs.length=1 then((g.outs.getD 0 default).ty,true)else(⟨0,0,0⟩,false):=by simp[nk,c9,VW,UU,O4,hc,fU hg]
  rw[hz];have _o:=(pc.1 hg).1;have L7:(m:Int)<p.nodes.length:=by omega
  by_cases ho:g.outs.length=1
  .obtain⟨d,Z⟩:=MF.1 ho;have gd:(g.outs.map gG).getD 0 []=gG d:=by rw[Z];rfl
   have Ek:g.outs.getD 0 default=d:=by rw[Z];rfl
   have jP:(g.outs.length:Int)=1:=by omega
   rw[gr ho,Ek];exact ao (ey @da.eq_1 @gX.eq_1 @bA.eq_1 @rJ.eq_1 (ai e) Yy Y e2 (jg hn yK Hf L7 gd jP)) zz
  .rw[ba ho];have jP:¬(g.outs.length:Int)=1:=by omega
   exact ao (ey @da.eq_1 @gX.eq_1 @bA.eq_1 @rJ.eq_1 (ai e) Yy Y e2 (fj hn yK Hf L7)) zz
def F9(p:fc)(n:Nat)(e:Ex):Ty×Bool:=
 if e.kind=1\/e.kind=2\/e.kind=4 then(((dG p.en e).getD ([],⟨0,0,0⟩)).2,(dG p.en e).isSome)
 else if e.kind=3 then(((fv (nodeAt p n) e.name).getD default).ty,(fv (nodeAt p n) e.name).isSome)
 else if e.kind=8 then((rF p n (e.ar.getD 1 default)).getD ⟨0,0,0⟩,(dG p.en (e.ar.getD 0 default)).isSome&&((rF p n (e.ar.getD 1 default)).isSome&&ow ((dG p.en (e.ar.getD 0 default)).getD ([],⟨0,0,0⟩)).2 ((rF p n (e.ar.getD 1 default)).getD ⟨0,0,0⟩)))
 else if e.kind=17 then(⟨0,0,0⟩,false)
 else if(jW p n e).isSome then(if 9<=e.kind/\e.kind<=13 then nk p n e ((jW p n e).getD [])else lH e ((jW p n e).getD []))else(⟨0,0,0⟩,false)
theorem as4(p)(n)(e:Ex)(h:e.kind=8->∃a b,e.ar=[a,b]):rF p n e=opt (F9 p n e):=by
 rw[Ao];unfold F9;by_cases c1:e.kind=1\/e.kind=2\/e.kind=4
 .rw[gr c1,gr c1];cases dG p.en e<;>rfl
 rw[ba c1,ba c1];by_cases c3:e.kind=3
 .rw[gr c3,gr c3];cases fv (nodeAt p n) e.name<;>rfl
 rw[ba c3,ba c3];by_cases c8:e.kind=8
 .obtain⟨a,b,I⟩:=h c8;rw[gr c8,gr c8,I];simp only[p0,OF,Ca,iW];cases dG p.en a<;>cases hb:rF p n b<;>simp[opt]
 rw[ba c8,ba c8];by_cases Hd:e.kind=17
 .rw[gr Hd,gr Hd];rfl
 rw[ba Hd,ba Hd];cases I:jW p n e with
 |none=>rfl
 |some t=>
  simp only[OV,Bp,S1];split
  .exact aky p n e t
  .exact afM e t
def A9(N:Nat):Ab->Prop×J:=fp bA eI gX λp i e=>(E5 p i e/\(az e).length<N,.b9 [.agg (dE ((rF p i.toNat e).getD ⟨0,0,0⟩)),.bool (rF p i.toNat e).isSome])
def RS(N)(p)(i:Int)(e):=show A9 N [.agg (cE p),.int .i64 i,.agg (cO e)]=_ from bW dY cF gC _ p i e
def Js(N:Nat):Ab->Prop×J:=fp bA eI gX λp i e=>(E5 p i e/\(az e).length<N+1,.b9 [.sl (((jW p i.toNat e).getD []).map dE),.bool (jW p i.toNat e).isSome])
def aAP(N)(p)(i:Int)(e):=show Js N [.agg (cE p),.int .i64 i,.agg (cO e)]=_ from bW dY cF gC _ p i e
def _q(N:Nat):Ab->Prop×J:=fp bA eI gX λp i e=>(E5 p i e/\(az e).length<N+1,.b9 [.agg (dE (F9 p i.toNat e).1),.bool (F9 p i.toNat e).2])
def aoZ(N)(p)(i:Int)(e):=show _q N [.agg (cE p),.int .i64 i,.agg (cO e)]=_ from bW dY cF gC _ p i e
theorem kK{e x:Ex}(h:x∈e.ar):(az x).length<(az e).length:=by
 have h1:=kf x;have h2:=kf e;have h3:=Gz (qa h x (jz x));have h4:=jX e;have:dt x<=hY e.ar:=by
  clear h1 h2 h3 h4;generalize e.ar=l at*;induction l with
  |nil=>simp at h
  |cons a l ih=>
   have p1:=jm l;have p2:=iz a;rw[hY];rcases NO.1 h with rfl|h
   .omega
   .have:=ih h;omega
 omega
theorem akz{α:Type}{x:Option α}{r:List (Option α)}:Mb (x::r)=match x with|none=>none|some y=>(Mb r).map (y::·):=by cases x<;>rfl
theorem abz(N)(hO:aJ Tryz.prog 106 (A9 N)):aJ Tryz.prog 161 (Js N):=by
 refine aJ.zP (ps:=[(106,A9 N)]) (I:=[]) ⟨hO,BB⟩ trivial aG3 λp i e h=>?_;obtain⟨hX,hN⟩:=h;dsimp only;have WO:=Cs hX.2.2.1;have Y:∀x∈e.ar,A9 N [.agg (cE p),.int .i64 i,.agg (cO x)]=(True,.b9 [.agg (dE ((rF p i.toNat x).getD ⟨0,0,0⟩)),.bool (rF p i.toNat x).isSome]):=λx U=>by rw[RS,lU (show E5 p i x/\(az x).length<N from⟨hX.sub U,by have:=kK U;omega⟩)]
 refine ao (fj @avK.eq_1 @gX.eq_1 @bA.eq_1 (ai e)) (JJ ?_);refine aj e.ar (λk (o:List Ty)=>⟨[(1,.int .i64 i),(3,.ref (cE p)),(5,.ref (cO e)),(8,.own 0 o.length 0 o.length),(9,.int .i64 k)],[⟨.aV,3,o.map dE⟩]⟩) (λk r o=>o.length=k/\jW p i.toNat e=(Mb (r.map (rF p i.toNat))).map (o++·)) [] (by decide) (CF (ai e)) ⟨rfl,?_⟩ (λk x r o d U Z E=>?_) (λk o ek E=>?_)
 .unfold jW;cases Mb (e.ar.map (rF p i.toNat))<;>rfl
 .obtain⟨hlen,E⟩:=E;rw[p0,akz]at E;have e2:=Y x (ed U);have hg:=ai x;have gx:=ag cO U;simp only[hg]at e2 gx;cases ho:rF p i.toNat x with
  |none=>
   rw[ho]at E e2;dsimp only[Option.isSome,Option.getD,Option.map]at E e2;rw[E];refine ao (fj (ai e) d gx e2) (JJ ?_);all_goals rfl
  |some t=>
   rw[ho]at E e2;dsimp only[Option.isSome,Option.getD]at E e2;refine ao (fj (ai e) d gx e2) (JJ ?_);all_goals first
    |exact⟨o++[t],(CF @IN.{0,0}),by simp[hlen],by rw[E];cases Mb (r.map (rF p i.toNat))<;>simp⟩
 .obtain⟨hlen,E⟩:=E;have E:jW p i.toNat e=some o:=by rw[E];simp[Mb]
  rw[E];have ED:(o.map dE).take e.ar.length=o.map dE:=vc (by simp;omega);refine ao (fj (ai e) ek ED hlen) (JJ ?_);all_goals rfl
theorem axh(N)(hO:aJ Tryz.prog 106 (A9 N)):aJ Tryz.prog 138 (_q N):=by
 refine aJ.zP (ps:=[(158,Jl),(132,w8),(106,A9 N),(161,Js N),(162,YH),(163,Sa)]) (I:=[]) ⟨aAL,gO,hO,abz N hO,aI9,aI8,BB⟩ trivial aGG λp i e h=>?_;obtain⟨hX,hN⟩:=h;dsimp only;have hE:=vu hX.1.1;have _r:=hX.self.1;have zR:=hX.2.2.1;obtain⟨p1,p2,p3,p4,p5,p6,p7⟩:=dW _r;have hl:=oQ _r;have Y:=Cn p.en e;rw[lU (show Gq p.en/\eG e=true from⟨hE,zR⟩)]at Y;have e4:=aAP N p i e;rw[lU (show E5 p i e/\(az e).length<N+1 from⟨hX,hN⟩)]at e4;have hlen:∀t,jW p i.toNat e=some t->t.length=e.ar.length:=λt ht=>(Am ht).1;have e5:=λt=>afK p i e t;have e6:=λt=>abE e t;have hXX:=hX;have e2:∀x∈e.ar,A9 N [.agg (cE p),.int .i64 i,.agg (cO x)]=(True,.b9 [.agg (dE ((rF p i.toNat x).getD ⟨0,0,0⟩)),.bool (rF p i.toNat x).isSome]):=λx U=>by rw[RS,lU (show E5 p i x/\(az x).length<N from⟨hX.sub U,by have:=kK U;omega⟩)]
 obtain⟨n,rfl,hk,hn,I,Ua⟩:=Gv hX.1;simp only[GC]at*;have yK:(n:Int)<p.nodes.length:=by omega
 have e3:=pA (nodeAt p n) e.name;rw[lU I]at e3;simp only[ai e]at Y e4 e5 e6;by_cases c1:e.kind=1\/e.kind=2\/e.kind=4
 .have hz:F9 p n e=(((dG p.en e).getD ([],⟨0,0,0⟩)).2,(dG p.en e).isSome):=by unfold F9;rw[gr c1]
  rw[hz];generalize (dG p.en e).getD ([],⟨0,0,0⟩)=r at*;obtain⟨r1,r2,r3,r4⟩:=r;rcases c1 with c1|c1|c1<;>rw[c1]at Y<;>(exact ao (jg @fo.eq_1 @gX.eq_1 @bA.eq_1 (ai e) c1 Y) zz);all_goals rfl
 by_cases c3:e.kind=3
 .have hz:F9 p n e=(((fv (nodeAt p n) e.name).getD default).ty,(fv (nodeAt p n) e.name).isSome):=by unfold F9;rw[ba c1,gr c3]
  rw[hz];exact ao (tM @fo.eq_1 @gX.eq_1 @bA.eq_1 (ai e) c3 e3 hn yK) zz;all_goals rfl
 have d1:¬e.kind=1:=λhh=>c1 (.inl hh);have d2:¬e.kind=2:=λhh=>c1 (.inr (.inl hh));have d4:¬e.kind=4:=λhh=>c1 (.inr (.inr hh));by_cases c8:e.kind=8
 .obtain⟨a,b,I⟩:=p2 (.inr (.inl c8));have OE:a∈e.ar:=by rw[I];simp
  have vP:b∈e.ar:=by rw[I];simp
  have ea:=Cn p.en a;rw[lU (show Gq p.en/\eG a=true from⟨hE,Gs zR OE⟩)]at ea;have eb:=e2 b vP;have ga:(e.ar.map cO).getD 0 []=cO a:=by rw[I];rfl
  have gb:(e.ar.map cO).getD 1 []=cO b:=by rw[I];rfl
  have l0:(0:Int)<e.ar.length:=by rw[I];simp
  have l1:(1:Int)<e.ar.length:=by rw[I];simp
  have hz:F9 p n e=((rF p n b).getD ⟨0,0,0⟩,(dG p.en a).isSome&&((rF p n b).isSome&&ow ((dG p.en a).getD ([],⟨0,0,0⟩)).2 ((rF p n b).getD ⟨0,0,0⟩))):=by unfold F9;rw[ba c1,ba c3,gr c8,I];rfl
  rw[hz];simp only[ai a]at ea ga;simp only[ai b]at eb gb;generalize (dG p.en a).isSome=b1 at*;generalize (dG p.en a).getD ([],⟨0,0,0⟩)=r at*;generalize (rF p n b).isSome=b2 at*;generalize (rF p n b).getD ⟨0,0,0⟩=u at*;obtain⟨r1,r2,r3,r4⟩:=r;obtain⟨u1,u2,u3⟩:=u;exact ao (ey @fo.eq_1 @gX.eq_1 @bA.eq_1 (ai e) c8 ea eb ga (fj gb @l0 l1 @qi)) zz;all_goals rfl
 by_cases Hd:e.kind=17
 .have hz:F9 p n e=(⟨0,0,0⟩,false):=by unfold F9;rw[ba c1,ba c3,ba c8,gr Hd]
  rw[hz];exact ao (fF @fo.eq_1 @gX.eq_1 @bA.eq_1 (ai e) Hd) zz;all_goals rfl
 have hz:F9 p n e=if(jW p n e).isSome then(if 9<=e.kind/\e.kind<=13 then nk p n e ((jW p n e).getD [])else lH e ((jW p n e).getD []))else(⟨0,0,0⟩,false):=by unfold F9;rw[ba c1,ba c3,ba c8,ba Hd]
 rw[hz];cases _s:jW p n e with
 |none=>
  rw[_s]at e4;dsimp only[Option.isSome,Option.getD]at e4;refine ao (fF @fo.eq_1 @gX.eq_1 @bA.eq_1 (ai e) e4) (JJ (λhn hn hn hn hn hn=>?_));all_goals rfl
 |some t=>
  rw[_s]at e4;dsimp only[Option.isSome,Option.getD]at e4|-;have QM:=hlen t _s;rw[gr rfl];by_cases c:9<=e.kind/\e.kind<=13
  .rw[gr c];obtain⟨ca,cb⟩:=c;have e5:=e5 t;rw[lU (show E5 p n e/\9<=e.kind/\e.kind<=13/\t.length=e.ar.length from⟨hXX,ca,cb,QM⟩)]at e5;generalize nk p n e t=r at*;obtain⟨⟨r1,r2,r3⟩,r4⟩:=r;exact ao (tM @fo.eq_1 @gX.eq_1 @bA.eq_1 (ai e) e4 e5 ca cb) zz;all_goals rfl
  .rw[ba c];have e6:=e6 t;rw[lU (show fi e=true/\(e.kind=5\/e.kind=6\/e.kind=7\/e.kind=14\/e.kind=15\/e.kind=16)/\t.length=e.ar.length from⟨_r,by omega,QM⟩)]at e6;generalize lH e t=r at*;obtain⟨⟨r1,r2,r3⟩,r4⟩:=r;by_cases ca:9<=e.kind
   .have cb:¬e.kind<=13:=λhh=>c ⟨ca,hh⟩;exact ao (tM @fo.eq_1 @gX.eq_1 @bA.eq_1 (ai e) e4 e6 ca cb) zz;all_goals rfl
   .exact ao (rO @fo.eq_1 @gX.eq_1 @bA.eq_1 (ai e) e4 e6 ca) zz;all_goals rfl
theorem RH:∀N,aJ Tryz.prog 106 (A9 N)
 |0=>aJ.zP (ps:=[]) (I:=[]) trivial trivial ayy λp i e h=>absurd h.2 (S3 _)
 |N+1=>by
  refine aJ.zP (ps:=[(138,_q N)]) (I:=[]) ⟨axh N (RH N),BB⟩ trivial ayy λp i e h=>?_;obtain⟨hX,hN⟩:=h;dsimp only;have Y:=aoZ N p i e;rw[lU (show E5 p i e/\(az e).length<N+1 from⟨hX,hN⟩)]at Y;have h8:=λhh=>(dW hX.self.1).2.1 (.inr (.inl hh));rw[as4 p i.toNat e h8];obtain⟨n,rfl,hk,hn,I,Ua⟩:=Gv hX.1;simp only[GC]at*;have h0:¬(n:Int)<0:=by omega
  have h1:¬(n:Int)≥p.nodes.length:=by omega
  have Pa:¬(p.nodes.length:Int)<=n:=by omega
  have aJl:¬p.nodes.length<=n:=by omega
  simp only[ai e]at Y;generalize F9 p n e=r at*;obtain⟨⟨r1,r2,r3⟩,r4⟩:=r;cases r4;all_goals(refine ao (rO @ava.eq_1 @gX.eq_1 @bA.eq_1 (ai e) Y h0 Pa) (JJ ?_))
  all_goals rfl
end
end Go.Proofs.YtldnkkkooabaeaaGreat

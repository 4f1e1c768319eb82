/- Programs: clocks: the walk (17). -/
import Derived.Test.YtldnkkkooabaeaaGreatPgDe
set_option linter.all false
set_option maxRecDepth 20000
namespace Go.Proofs.YtldnkkkooabaeaaGreat
noncomputable section
open Go.Nk
abbrev pd:List gT->J:=eL eD
theorem uC:ux pd:=yu qJ
theorem aAm(a)(b)(c)(d):Q2 true [2,0] (.agg [.str a,.int .i64 b]) (.agg [.str c,.int .i64 d])=(True,.bool (!((a,b)==(c,d)))):=by
 have:eF [2,0] [.str a,.int .i64 b] [.str c,.int .i64 d]=some ((a,b)==(c,d)):=by simp only[eF,Bp];show _=some (a==c&&b==d);cases (a==c)<;>cases (b==d)<;>rfl
 simp[Q2,this]
def A7:Ab->Prop×J:=fp bA eI eS λp i s=>(bF p=true/\0<=i,.b9 [.sl (((dU p i.toNat s).getD []).map eD),.bool (dU p i.toNat s).isSome])
def vq(p)(i:Int)(s):=show A7 [.agg (cE p),.int .i64 i,.str s]=_ from bW dY cF kj _ p i s
theorem fT:aJ Tryz.prog 75 A7:=by
 refine aJ.zP (ps:=[(103,Jn),(104,zc)]) (I:=[]) ⟨aze,cZ,BB⟩ trivial aFa λp i s h=>?_;try dsimp only at h
 obtain⟨hP,hi⟩:=h;obtain⟨n,rfl⟩:=Cy hi;simp only[GC];have hE:=vu hP;obtain⟨Ua,zR⟩:=fE hP;have h0:¬(n:Int)<0:=by omega
 by_cases hn:n<p.nodes.length;rotate_left
 .have hz:dU p n s=none:=by unfold dU;rw[ba hn]
  have h1:p.nodes.length<=n:=by omega
  rw[hz];refine ao (cL @nO.eq_1 @bA.eq_1 h0) (JJ (λhn=>?_));all_goals rfl
 have h1:¬p.nodes.length<=n:=by omega
 have gn:=ag fe (iU hn);have I:=zR _ (ed (iU hn));have Y:=azd (p.nodes.getD n default) s;rw[lU I]at Y;have hz:dU p n s=match mj (p.nodes.getD n default) s with|none=>none|some l=>ou p.en l:=by unfold dU;rw[gr hn];rfl
 rw[hz];generalize p.nodes.getD n default=nd at*;cases hc:mj nd s with
 |none=>
  rw[hc]at Y;dsimp only[Option.isSome,Option.getD]at Y;refine ao (fF @nO.eq_1 @bA.eq_1 h0 gn Y) (JJ (λhn=>?_));all_goals rfl
 |some l=>
 rw[hc]at Y;dsimp only[Option.isSome,Option.getD]at Y;have aAn:=(RO hc (λd Z=>by simp at Z)).2;have e2:∀d∈l,zc [.sl (p.en.map kF),.str d.ct]=(True,.b9 [.agg (dE (gH p.en d.ct).1),.int .i64 (gH p.en d.ct).2.1,.bool (gH p.en d.ct).2.2]):=λd Z=>by rw[oP,lU hE]
 refine ao (fF @nO.eq_1 @bA.eq_1 h0 gn Y) (JJ (λhn=>?_));refine aj l (λk (o:List gT)=>⟨[(3,.ref (cE p)),(8,.sl (l.map gG)),(10,.own 0 o.length 0 o.length),(11,.int .i64 k)],[⟨.aV,2,o.map eD⟩]⟩) (λk r o=>o.length=k/\ou p.en l=(ou p.en r).map (o++·)) [] (by decide) CT ⟨rfl,by cases ou p.en l<;>rfl⟩ (λk d r o dk U Z E=>?_) (λk o ek E=>?_)
 .obtain⟨r1,r2⟩:=E;rw[ou]at r2;have gd:=ag gG U;have e3:=e2 d (ed U);have hb:nP p.en d.ct=(gH p.en d.ct).2.2:=rfl;rw[hb]at r2;obtain⟨x1,x2,x3,aA7⟩:=d;dsimp only at r2 e3;generalize gH p.en aA7=a at*;obtain⟨⟨a1,a2,a3⟩,a4,a5⟩:=a;simp at aAn;cases a5
  .simp only[AN,Bv,Option.map_none]at r2;rw[r2];refine ao (cL dk gd e3) (JJ ?_);all_goals rfl
  .simp only[Bp]at r2;refine ao (cL dk gd e3) (JJ ?_);exact⟨o++[(x3,a4)],(CF (bV @IN.{0,0} @eD.eq_1)),by simp[r1],by rw[r2];cases ou p.en r<;>simp⟩
 .obtain⟨r1,r2⟩:=E;have r2:ou p.en l=some o:=by rw[r2];simp[ou]
  rw[r2];have ED:(o.map eD).take l.length=o.map eD:=vc (by simp;omega);refine ao (cL ek @r1 ED) (JJ ?_);all_goals rfl
def Ds:Ab->Prop×J:=cH pd pd λa b=>(a.length<=1000000,.bool (a==b))
def Al(a:List gT)(b:List gT):=show Ds [.sl (a.map eD),.sl (b.map eD)]=_ from aY uC uC _ a b
theorem aoQ{x y:gT}{a b:List gT}:(x::a==y::b)=(x==y&&a==b):=rfl
theorem lC:aJ Tryz.prog 169 Ds:=by
 refine aJ.se (ps:=[]) (I:=[]) trivial trivial aHb λa b h=>?_;try dsimp only at h
 have h:a.length<=1000000:=h;by_cases hl:a.length=b.length;rotate_left
 .have hz:(a==b)=false:=by rw[SO];intro hh;exact hl (by rw[hh])
  rw[hz];have Me:¬(a.length:Int)=b.length:=by omega
  exact ao (bV @qO.eq_1 @pd.eq_1) zz;all_goals rfl
 have Me:(a.length:Int)=b.length:=by omega
 refine ao (cL @qO.eq_1 @pd.eq_1 Me) (JJ ?_);refine aj a (λk (_:Unit)=>⟨[(0,.sl (a.map eD)),(1,.sl (b.map eD)),(5,.int .i64 k)],[]⟩) (λk r _=>(a==b)=(r==b.drop k)) () (AI _) CT rfl (λk x r _ d U Z E=>?_) (λk _ e E=>?_)
 .have dk:k<b.length:=by omega
  obtain⟨y,q1,q2⟩:=eE b dk;rw[q2,aoQ]at E;have g1:=ag eD U;have g2:=ag eD q1;obtain⟨x1,x2⟩:=x;obtain⟨y1,y2⟩:=y;have d':(k:Int)<b.length:=by omega
  cases hq:((x1,x2)==(y1,y2))<;>rw[hq]at E
  .refine ao (jg d' hl g1 g2 hq @aAm) (JJ ?_);all_goals(rw[E];rfl)
  .refine ao (jg d' hl g1 g2 hq @aAm) (JJ ?_);exact⟨(),CT,E⟩
 .have He:b.drop k=[]:=Z8 (by omega);rw[He]at E;have E:_=true:=E;rw[E];exact ao (bV e hl) zz;all_goals rfl
def RG:Ab->Prop×J:=fp pd eS eI λon s n=>(on.length<=1000000,.sl ((on++[(s,n)]).map eD))
def LW(on:List gT)(s)(n):=show RG [.sl (on.map eD),.str s,.int .i64 n]=_ from bW uC kj cF _ on s n
theorem py:aJ Tryz.prog 160 RG:=by
 refine aJ.zP (ps:=[]) (I:=[]) trivial trivial aG2 λon s n h=>?_;try dsimp only at h
 have h:on.length<=1000000:=h;have hm:(on++[(s,n)]).map eD=on.map eD++[[.str s,.int .i64 n]]:=by simp
 have ED:(on.map eD++[[J.str s,J.int .i64 n]]).take (on.length+1)=on.map eD++[[J.str s,J.int .i64 n]]:=vc (by simp);rw[hm];have su:∀e∈on.map eD,e.length=2:=λe he=>by obtain⟨x,_,rfl⟩:=It.1 he;rfl
 have _v:=lU su;have h1:on.length<=4294967296:=by omega
 have h2:on.length<=4294967295:=by omega
 exact ao (jg @avI.eq_1 @pd.eq_1 ED _v h1 h2) zz;all_goals rfl
theorem LU{p}{i}{on}:∀{l:List Ex},(oO p i l (l.map λ_=>on)).all id=l.all λx=>ep p i x on
 |[]=>rfl
 |x::l=>by rw[p0,oO,MM,MM,LU];rfl
def KG(p:fc)(i:Nat)(s:B3)(on:List gT):List Ex->BS->Bool
 |x::l,c::r=>nP p.en c&&(ep p i x (on++[(s,(gH p.en c).2.1)])&&KG p i s on l r)
 |_,_=>true
theorem Yu{p:fc}{i}{s}{on}:∀{l:List Ex} {a:BS},a.length=l.length->(a.all (nP p.en)&&(oO p i l (a.map λc=>on++[(s,(gH p.en c).2.1)])).all id)=KG p i s on l a
 |[],[],_=>rfl
 |x::l,c::a,h=>by rw[p0,oO,MM,MM,KG,<-Yu (l:=l) (a:=a) (by simpa using h)];show(nP p.en c&&a.all (nP p.en)&&(ep p i x _&&_))=_;cases nP p.en c<;>cases a.all (nP p.en)<;>cases ep p i x (on++[(s,(gH p.en c).2.1)])<;>rfl
 |[],_::_,h=>by simp at h
 |_::_,[],h=>by simp at h
def vz(N:Nat):Ab->Prop×J:=E4 bA eI gX pd λp i e on=>(E5 p i e/\(az e).length<N/\on.length+(az e).length<=1000,.bool (ep p i.toNat e on))
def aA9(N)(p)(i:Int)(e)(on:List gT):=show vz N [.agg (cE p),.int .i64 i,.agg (cO e),.sl (on.map eD)]=_ from yS dY cF gC uC _ p i e on
def _w(N:Nat):Ab->Prop×J:=E4 bA eI gX pd λp i e on=>((E5 p i e/\e.kind=11)/\(az e).length<N+1/\on.length+(az e).length<=1000,.bool (ep p i.toNat e on))
def akq(N)(p)(i:Int)(e:Ex)(on:List gT):=show _w N [.agg (cE p),.int .i64 i,.agg (cO e),.sl (on.map eD)]=_ from yS dY cF gC uC _ p i e on
def YA(N:Nat):Ab->Prop×J:=E4 bA eI gX pd λp i e on=>((E5 p i e/\e.kind=12)/\(az e).length<N+1/\on.length+(az e).length<=1000,.bool (ep p i.toNat e on))
def afz(N)(p)(i:Int)(e:Ex)(on:List gT):=show YA N [.agg (cE p),.int .i64 i,.agg (cO e),.sl (on.map eD)]=_ from yS dY cF gC uC _ p i e on
theorem RP{N}{p}{i:Int}{e x:Ex}{on:List gT}(hX:E5 p i e)(U:x∈e.ar)(hN:(az e).length<N+1)(ho:on.length+(az x).length<=1000):
 vz N [.agg (cE p),.int .i64 i,.agg (cO x),.sl (on.map eD)]=(True,.bool (ep p i.toNat x on)):=by
 rw[aA9,lU (show E5 p i x/\(az x).length<N/\on.length+(az x).length<=1000 from⟨hX.sub U,by have:=kK U;omega,ho⟩)]
theorem asY(N)(hO:aJ Tryz.prog 170 (vz N)):aJ Tryz.prog 187 (_w N):=by
 refine aJ.QI (ps:=[(75,A7),(104,zc),(160,RG),(169,Ds),(170,vz N)]) (I:=[]) ⟨fT,cZ,py,lC,hO,BB⟩ trivial aHs λp i e on h=>?_;obtain⟨⟨hX,T9⟩,hN,hb⟩:=h;dsimp only;have hE:=vu hX.1.1;obtain⟨m,hm⟩:=_p hX.self.1 T9;obtain⟨a,ha⟩:=(dW hX.self.1).1 (.inr (.inr T9));have OE:a∈e.ar:=by rw[ha];simp
 have WZ:=lZ hX.2.2.1;have PJ:=kK OE;have Y:=vq p i e.name;rw[lU (show bF p=true/\0<=i from⟨hX.1.1,hX.1.2.1⟩)]at Y;have e2:=oP p.en m;rw[lU hE]at e2;have e5:=λ(row:List gT) ho=>RP (on:=row) hX OE hN ho;have g0:(cW e.arms).getD 0 []=[.str m]:=by rw[hm];rfl
 have g1:(e.ar.map cO).getD 0 []=cO a:=by rw[ha];rfl
 have l1:(e.arms.length:Int)=1:=by rw[hm];rfl
 have l2:(e.ar.length:Int)=1:=by rw[ha];rfl
 have hz:ep p i.toNat e on=match dU p i.toNat e.name with
  |none=>false
  |some row=>nP p.en m&&(on==row++[(e.name,(gH p.en m).2.1)]&&ep p i.toNat a row):=by
  rw[jy,ba (by omega),ba (by omega),ba (by omega),gr T9,hm,ha];cases dU p i.toNat e.name with
  |none=>rfl
  |some row=>
   simp only[IS,Cd,OF,oO];cases nP p.en m<;>rfl
 rw[hz];have R8:nP p.en m=(gH p.en m).2.2:=rfl;rw[R8];simp only[ai a]at g1 e5;generalize gH p.en m=q at*;obtain⟨⟨q1,q2,q3⟩,q4,q5⟩:=q;cases E:dU p i.toNat e.name with
 |none=>
  rw[E]at Y;dsimp only[Option.isSome,Option.getD]at Y;exact ao (rO @qP.eq_1 @gX.eq_1 @bA.eq_1 @pd.eq_1 (ai e) T9 Y) zz;all_goals rfl
 |some row=>
  rw[E]at Y;dsimp only[Option.isSome,Option.getD]at Y;have Mt:=(L5 E).2;have e3:=LW row e.name q4;rw[lU (show row.length<=1000000 by omega)]at e3;have e4:=Al on (row++[(e.name,q4)]);rw[lU (show on.length<=1000000 by omega)]at e4;have e5:=e5 row (by omega);dsimp only;generalize (on==row++[(e.name,q4)])=b1 at*;generalize row++[(e.name,q4)]=aJg at*;generalize ep p i.toNat a row=b2 at*;exact ao (ey @qP.eq_1 @gX.eq_1 @bA.eq_1 @pd.eq_1 @ak (ai e) T9 Y (tM e2 e3 e4 e5 g0 g1 l1 l2)) zz;all_goals rfl
theorem RF{p:fc}{i:Nat}{s:B3}{on:List gT}{x:Ex}{l:List Ex}{c:B3}{r:BS}:KG p i s on (x::l) (c::r)=(nP p.en c&&(ep p i x (on++[(s,(gH p.en c).2.1)])&&KG p i s on l r)):=rfl
theorem aoS(N:Nat)(hO:aJ Tryz.prog 170 (vz N)):aJ Tryz.prog 188 (YA N):=by
 refine aJ.QI (ps:=[(75,A7),(104,zc),(160,RG),(169,Ds),(170,vz N)]) (I:=[]) ⟨fT,cZ,py,lC,hO,BB⟩ trivial aHt λp i e on h=>?_;obtain⟨⟨hX,Gi⟩,hN,hb⟩:=h;dsimp only;have hE:=vu hX.1.1;obtain⟨p1,p2,p3⟩:=(dW hX.self.1).2.2.2.1 Gi;have WZ:=lZ hX.2.2.1;have Y:=vq p i e.name;rw[lU (show bF p=true/\0<=i from⟨hX.1.1,hX.1.2.1⟩)]at Y;have e2:=λm=>oP p.en m;simp only[lU hE]at e2;have hz:ep p i.toNat e on=(dU p i.toNat e.name==some on&&KG p i.toNat e.name on e.ar e.arms):=by
  rw[jy,ba (by omega),ba (by omega),ba (by omega),ba (by omega),gr Gi,<-Yu p1.symm];have:(e.arms.length==e.ar.length)=true:=by simp[p1]
  rw[this,GJ,Bool.and_assoc]
 rw[hz];have ll:(e.arms.length:Int)=e.ar.length:=by omega
 cases E:dU p i.toNat e.name with
 |none=>
  rw[E]at Y;dsimp only[Option.isSome,Option.getD]at Y;refine ao (rO @lD.eq_1 @gX.eq_1 @bA.eq_1 @pd.eq_1 (ai e) Gi Y) (JJ ?_);all_goals rfl
 |some row=>
  rw[E]at Y;dsimp only[Option.isSome,Option.getD]at Y;have Mt:=(L5 E).2;have e4:=Al row on;rw[lU (show row.length<=1000000 by omega)]at e4;have I:(some row==some on)=(row==on):=rfl;rw[I];cases Mh:(row==on)
  .rw[Mh]at e4;exact ao (tM @lD.eq_1 @gX.eq_1 @bA.eq_1 @pd.eq_1 (ai e) Gi Y e4) zz;all_goals rfl
  rw[Mh]at e4;refine ao (ey @lD.eq_1 @gX.eq_1 @bA.eq_1 @pd.eq_1 @ak (ai e) Gi Y (bV e4 ll)) (JJ ?_);refine aj e.arms (λk (_:Unit)=>⟨[(1,.int .i64 i),(3,.sl (on.map eD)),(4,.ref (cE p)),(6,.ref (cO e)),(11,.int .i64 k)],[]⟩) (λk r _=>KG p i.toNat e.name on e.ar e.arms=KG p i.toNat e.name on (e.ar.drop k) r) () (AI _) (CF (bV (ai e) Gi)) rfl (λk c r _ d U Z hq=>?_) (λk _ ek hq=>?_)
  .have dk:k<e.ar.length:=by omega
   obtain⟨x,q1,q2⟩:=eE e.ar dk;rw[q2,RF]at hq;have UT:=ed q1;have g1:=fN U;have g2:=ag cO q1;have PJ:=kK UT;have R8:nP p.en c=(gH p.en c).2.2:=rfl;rw[R8]at hq;have e2:=e2 c;generalize gH p.en c=q at*;obtain⟨⟨q3,q4,q5⟩,q6,q7⟩:=q;dsimp only at hq;have e3:=LW on e.name q6;rw[lU (show on.length<=1000000 by omega)]at e3;have e5:=RP (on:=on++[(e.name,q6)]) hX UT hN (by simp;omega);simp only[ai x]at g2 e5;have _x:(k:Int)<e.ar.length:=by omega
   generalize ep p i.toNat x (on++[(e.name,q6)])=b2 at*;generalize on++[(e.name,q6)]=_y at*;cases q7
   .refine ao (rO @ak (ai e) Gi _x g1 e2 ll) (JJ ?_);all_goals(rw[hq];rfl)
   cases b2
   .refine ao (ey @ak (ai e) Gi _x g1 g2 e2 e3 (bV e5 ll)) (JJ ?_);all_goals(rw[hq];rfl)
   .refine ao (ey @ak (ai e) Gi _x g1 g2 e2 e3 (bV e5 ll)) (JJ ?_);exact⟨(),CT,hq⟩
  .have hq:KG p i.toNat e.name on e.ar e.arms=true:=by rw[hq];cases e.ar.drop k<;>rfl
   rw[hq];have ek':¬(k:Int)<e.ar.length:=by omega
   exact ao (fF @ak (ai e) Gi ek ll) zz;all_goals rfl
theorem aoT(N)(hO:aJ Tryz.prog 170 (vz N)):aJ Tryz.prog 170 (vz (N+1)):=by
 refine aJ.QI (ps:=[(75,A7),(169,Ds),(187,_w N),(188,YA N),(170,vz N)]) (I:=[]) ⟨fT,lC,asY N hO,aoS N hO,hO,BB⟩ trivial ayE λp i e on h=>?_;obtain⟨hX,hN,hb⟩:=h;dsimp only;have zR:=hX.2.2.1;have WO:=Cs zR;have Y:=vq p i e.name;rw[lU (show bF p=true/\0<=i from⟨hX.1.1,hX.1.2.1⟩)]at Y;have e3:=akq N p i e on;have e4:=afz N p i e on;have e5:=λ(x:Ex) (U:x∈e.ar)=>RP (on:=on) hX U hN (by have:=kK U;omega);obtain⟨p1,p2,_⟩:=dW hX.self.1;have h0:¬i<0:=by have:=hX.1.2.1;omega
 have h1:¬(p.nodes.length:Int)<=i:=by have:=hX.1.2.2;omega
 simp only[ai e]at e3 e4;by_cases c1:e.kind=1\/e.kind=2\/e.kind=4
 .have hz:ep p i.toNat e on=true:=by rw[jy,gr c1]
  rw[hz];rcases c1 with c1|c1|c1<;>(exact ao (tM @dP.eq_1 @gX.eq_1 @bA.eq_1 @pd.eq_1 (ai e) c1 h0 h1) zz);all_goals rfl
 have d1:¬e.kind=1:=λhh=>c1 (.inl hh);have d2:¬e.kind=2:=λhh=>c1 (.inr (.inl hh));have d4:¬e.kind=4:=λhh=>c1 (.inr (.inr hh));by_cases c3:e.kind=3
 .have hz:ep p i.toNat e on=(dU p i.toNat e.name==some on):=by rw[jy,ba c1,gr c3]
  rw[hz];cases E:dU p i.toNat e.name with
  |none=>
   rw[E]at Y;dsimp only[Option.isSome,Option.getD]at Y;refine ao (ey @dP.eq_1 @gX.eq_1 @bA.eq_1 @pd.eq_1 (ai e) c3 h0 h1 Y) (JJ ?_);all_goals rfl
  |some row=>
   rw[E]at Y;dsimp only[Option.isSome,Option.getD]at Y;have Mt:=(L5 E).2;have e2:=Al row on;rw[lU (show row.length<=1000000 by omega)]at e2;refine ao (ey @dP.eq_1 @gX.eq_1 @bA.eq_1 @pd.eq_1 (ai e) c3 h0 h1 (bV Y e2)) (JJ ?_);all_goals rfl
 by_cases c8:e.kind=8
 .obtain⟨a,b,I⟩:=p2 (.inr (.inl c8));have eb:=e5 b (by rw[I];simp);have gb:(e.ar.map cO).getD 1 []=cO b:=by rw[I];rfl
  have l2:(e.ar.length:Int)=2:=by rw[I];rfl
  have hz:ep p i.toNat e on=ep p i.toNat b on:=by rw[jy,ba c1,ba c3,gr c8,I];rfl
  rw[hz];simp only[ai b]at eb gb;exact ao (ey @dP.eq_1 @gX.eq_1 @bA.eq_1 @pd.eq_1 (ai e) c8 h0 h1 (cL eb gb l2)) zz;all_goals rfl
 by_cases UU:e.kind=11
 .rw[lU (show(E5 p i e/\e.kind=11)/\(az e).length<N+1/\on.length+(az e).length<=1000 from⟨⟨hX,UU⟩,hN,hb⟩)]at e3;rw[UU]at e3;exact ao (ey @dP.eq_1 @gX.eq_1 @bA.eq_1 @pd.eq_1 (ai e) UU h0 h1 e3) zz;all_goals rfl
 by_cases O4:e.kind=12
 .rw[lU (show(E5 p i e/\e.kind=12)/\(az e).length<N+1/\on.length+(az e).length<=1000 from⟨⟨hX,O4⟩,hN,hb⟩)]at e4;rw[O4]at e4;exact ao (ey @dP.eq_1 @gX.eq_1 @bA.eq_1 @pd.eq_1 (ai e) O4 h0 h1 e4) zz;all_goals rfl
 by_cases Hd:e.kind=17
 .have hz:ep p i.toNat e on=false:=by rw[jy,ba c1,ba c3,ba c8,ba UU,ba O4,gr Hd]
  rw[hz];exact ao (tM @dP.eq_1 @gX.eq_1 @bA.eq_1 @pd.eq_1 (ai e) Hd h0 h1) zz;all_goals rfl
 have hz:ep p i.toNat e on=e.ar.all λx=>ep p i.toNat x on:=by rw[jy,ba c1,ba c3,ba c8,ba UU,ba O4,ba Hd,LU]
 rw[hz];refine ao (rO @dP.eq_1 @gX.eq_1 @bA.eq_1 @pd.eq_1 (ai e) h0 h1) (JJ (λhn hn hn hn hn hn hn hn=>?_));refine aj e.ar (λk (_:Unit)=>⟨[(1,.int .i64 i),(3,.sl (on.map eD)),(4,.ref (cE p)),(6,.ref (cO e)),(11,.int .i64 k)],[]⟩) (λk r _=>(e.ar.all λx=>ep p i.toNat x on)=r.all λx=>ep p i.toNat x on) () (AI _) (CF (ai e)) rfl (λk x r _ d U Z E=>?_) (λk _ ek E=>?_)
 .rw[MM]at E;have ex:=e5 x (ed U);have gx:=ag cO U;simp only[ai x]at ex gx;generalize ep p i.toNat x on=b at*;cases b
  .refine ao (fj (ai e) d gx ex) (JJ ?_);all_goals(rw[E];rfl)
  .refine ao (fj (ai e) d gx ex) (JJ ?_);exact⟨(),CT,E⟩
 .have E:_=true:=E;rw[E];exact ao (bV (ai e) ek) zz;all_goals rfl
theorem abv:∀N,aJ Tryz.prog 170 (vz N)
 |0=>aJ.QI (ps:=[]) (I:=[]) trivial trivial ayE λp i e on h=>absurd h.2.1 (S3 _)
 |N+1=>aoT N (abv N)
def aAo(p:fc)(i:Int)(x:xY):Prop:=vQ p i x/\0<x.names.length
def YB:Ab->Prop×J:=fp bA eI Lq λp i x=>(aAo p i x,.bool (LR p i.toNat x))
def aks(p)(i:Int)(x):=show YB [.agg (cE p),.int .i64 i,.agg (me x)]=_ from bW dY cF YC _ p i x
theorem uI{p}{i}{s}:((dU p i s).getD []).length<=13:=by
 cases h:dU p i s with
 |none=>simp
 |some r=>exact(L5 h).2
theorem as0:aJ Tryz.prog 155 YB:=by
 refine aJ.zP (ps:=[(75,A7),(169,Ds),(170,vz 300)]) (I:=[]) ⟨fT,lC,abv 300,BB⟩ trivial aGX λp i x h=>?_;obtain⟨⟨hX,_N⟩,vR⟩:=h;dsimp only;have Y:=λs=>vq p i s;simp only[lU (show bF p=true/\0<=i from⟨hX.1.1,hX.1.2.1⟩)]at Y;have WZ:=lZ hX.2.2.1;have FB:=uI (p:=p) (i:=i.toNat) (s:=x.names.getD 0 []);have e3:=aA9 300 p i x.e ((dU p i.toNat (x.names.getD 0 [])).getD []);rw[lU (show E5 p i x.e/\(az x.e).length<300/\((dU p i.toNat (x.names.getD 0 [])).getD []).length+(az x.e).length<=1000 from⟨hX,WZ,by omega⟩)]at e3;simp only[ai x.e]at e3;have g0:(cW x.names).getD 0 []=[.str (x.names.getD 0 [])]:=fN (by rw[BY,tx vR];rfl);have h0:(0:Int)<x.names.length:=by omega
 have hq:LR p i.toNat x=((x.names.all λs=>(dU p i.toNat s).getD []==(dU p i.toNat (x.names.getD 0 [])).getD [])&&ep p i.toNat x.e ((dU p i.toNat (x.names.getD 0 [])).getD [])):=rfl;rw[hq];have e10:=Y (x.names.getD 0 []);generalize (dU p i.toNat (x.names.getD 0 [])).getD []=row at*;generalize (dU p i.toNat (x.names.getD 0 [])).isSome=rb at*;generalize x.names.getD 0 []=s0 at*;refine ao (rO @avE.eq_1 @Lq.eq_1 @bA.eq_1 @ak g0 h0 e10) (JJ ?_);refine aj x.names (λk (_:Unit)=>⟨[(1,.int .i64 i),(3,.ref (cE p)),(5,.ref (me x)),(7,.sl (row.map eD)),(9,.int .i64 k)],[]⟩) (λk r _=>(x.names.all λs=>(dU p i.toNat s).getD []==row)=r.all λs=>(dU p i.toNat s).getD []==row) () (AI _) CT rfl (λk s r _ d U Z E=>?_) (λk _ ek E=>?_)
 .rw[MM]at E;have e11:=Y s;have gs:=fN U;have hrs:=uI (p:=p) (i:=i.toNat) (s:=s);generalize (dU p i.toNat s).getD []=vS at*;have e2:=Al vS row;rw[lU (show vS.length<=1000000 by omega)]at e2;generalize hb:(vS==row)=b at*;cases b
  .refine ao (fF @ak d gs e11 e2) (JJ ?_);all_goals(rw[E];rfl)
  .refine ao (fF @ak d gs e11 e2) (JJ ?_);exact⟨(),CT,E⟩
 .have E:_=true:=E;rw[E];exact ao (cL @ak ek e3) zz;all_goals rfl
theorem aBd{p}(h:jv p=fk):g9 p=fk:=by
 by_cases c:g9 p=fk
 .exact c
 .rw[aA3 c]at h;exact h
theorem ahT{p:fc}(hP:bF p=true)(h:g9 p=fk){i:Nat}{n:kY}{x:xY}(hn:p.nodes[i]? =some n)(U:x∈n.eqs):aAo p i x:=by refine⟨aoU hP h hn U,?_⟩;obtain⟨_,_,_,_,q5,_⟩:=nR (aAU h).1;have k5:=q5 n (ed hn);simp only[ov,ab,BE]at k5;have k6:=k5.1.1.2 x U;simp only[Ep,ab,ir]at k6;exact k6.1.1.2
def RQ:Ab->Prop×J:=bJ bA λp=>(bF p=true,.agg (mI (ke p)))
def abw(p):=show RQ [.agg (cE p)]=_ from aI dY _ p
theorem afA{p:fc}(h:jv p=fk):ke p=bk (sx p) 0 p.nodes:=by unfold ke;rw[ba (by rw[h];simp)]
theorem aBf{p}(h:¬jv p=fk):ke p=jv p:=by unfold ke;rw[gr h]
set_option maxHeartbeats 2000000 in
theorem aJc:aJ Tryz.prog 129 RQ:=by
 refine aJ.mS (ps:=[(153,RR),(154,Ct),(75,A7),(102,w7),(155,YB)]) (I:=[]) ⟨aJa,iw,fT,fW,as0,BB⟩ trivial aGy λp h=>?_;dsimp only;have hP:bF p=true:=h;have Y:=abx p;rw[lU hP]at Y;obtain⟨Ua,zR⟩:=fE hP;by_cases c1:jv p=fk;rotate_left
 .have Z:decide (jv p=fk)=false:=Z7 c1;rw[aBf c1];generalize jv p=f at*;exact ao (fF @pz.eq_1 @bA.eq_1 Y @O1 Z) zz;all_goals rfl
 rw[afA c1];have e9:∀(i:Nat) (n:kY) (x:xY),p.nodes[i]? =some n->x∈n.eqs->YB [.agg (cE p),.int .i64 i,.agg (me x)]=(True,.bool (LR p i x)):=λi n x hn U=>by have:=aks p i x;rw[lU (ahT hP (aBd c1) hn U),GC]at this;exact this
 have e8:∀(i:Nat) (s:B3),A7 [.agg (cE p),.int .i64 i,.str s]=(True,.b9 [.sl (((dU p i s).getD []).map eD),.bool (dU p i s).isSome]):=λi s=>by have:=vq p i s;rw[lU (show bF p=true/\(0:Int)<=i from⟨hP,by omega⟩),GC]at this;exact this
 have Z:decide (jv p=fk)=true:=ON c1;refine ao (fF @pz.eq_1 @bA.eq_1 Y @O1 Z) (JJ ?_);refine aj p.nodes (λj (_:Unit)=>⟨[(1,.ref (cE p)),(2,.ptr 0 1 0 0),(4,.int .i64 j)],[⟨.loc,3,[mI fk]⟩,⟨.loc,3,[mI (jv p)]⟩]⟩) (λj r _=>bk (sx p) 0 p.nodes=bk (sx p) j r) () (by decide) CT rfl (λj n r _ d U Z E=>?_) (λj _ e E=>?_);rotate_left
 .have E:bk (sx p) 0 p.nodes=fk:=E;rw[E];refine ao @e (JJ ?_);all_goals rfl
 rw[bk]at E;have Uc:=zR n (ed U);have hl:=Dt Uc;have e2:=uU n;rw[lU Uc]at e2;have gn:=ag fe U;obtain⟨_,_,_,l4,_,_⟩:=dz Uc;refine ao (cL d gn e2) (JJ ?_);refine aj (dQ n) (λk (_:Unit)=>⟨[(1,.ref (cE p)),(2,.ptr 0 1 0 0),(4,.int .i64 j),(5,.sl ((dQ n).map gG)),(6,.int .i64 k)],[⟨.loc,3,[mI fk]⟩,⟨.loc,3,[mI (jv p)]⟩]⟩) (λk q _=>((dQ n).all λd=>(dU p j d.name).isSome)=q.all λd=>(dU p j d.name).isSome) () (by decide) CT rfl (λk x q _ dk US Q3 hq=>?_) (λk _ ek hq=>?_)
 .rw[MM]at hq;have gx:=ag gG US;have e3:=e8 j x.name;have hz:((dQ n).all λd=>(dU p j d.name).isSome)=false->bk (sx p) 0 p.nodes=((j:Int),-1,8):=λhf=>by
   have hT:sx p j n=((j:Int),-1,8):=by unfold sx;rw[hf];rfl
   rw[E,hT,ba (by simp[fk])]
  generalize (dU p j x.name).getD []=vS at*;generalize hb:(dU p j x.name).isSome=rb at*;cases rb
  .refine ao (fj @iI dk gx e3) (JJ ?_);all_goals exact NT (hz hq)
  .refine ao (cL dk gx e3) (JJ ?_);exact⟨(),CT,hq⟩
 have hq:((dQ n).all λd=>(dU p j d.name).isSome)=true:=hq;have hT:sx p j n=bk (λk x=>if LR p j x then fk else((j:Int),(k:Int),8)) 0 n.eqs:=by unfold sx;rw[hq];rfl
 rw[hT]at E;refine ao @ek (JJ ?_);refine aj n.eqs (λk (_:Unit)=>⟨[(1,.ref (cE p)),(2,.ptr 0 1 0 0),(4,.int .i64 j),(9,.int .i64 k)],[⟨.loc,3,[mI fk]⟩,⟨.loc,3,[mI (jv p)]⟩]⟩) (λk q _=>bk (λk x=>if LR p j x then fk else((j:Int),(k:Int),8)) 0 n.eqs=bk (λk x=>if LR p j x then fk else((j:Int),(k:Int),8)) k q) () (by decide) CT rfl (λk x q _ dk US Q3 Jr=>?_) (λk _ Tn Jr=>?_)
 .rw[bk]at Jr;have e5:=e9 j n x U (ed US);have gx:=ag me US;cases hc:LR p j x<;>rw[hc]at Jr e5
  .have h7:¬(((j:Int),(k:Int),(8:Int)):L6)=fk:=by simp[fk]
   simp only[AN,Bv]at Jr;rw[ba h7]at Jr;rw[Jr,ba h7]at E;refine ao (jg @iI d gn dk gx e5) (JJ ?_);all_goals exact NT E
  .simp only[Bp]at Jr;refine ao (fF d gn dk gx e5) (JJ ?_);all_goals exact⟨(),CT,Jr⟩
 .have Jr:_=fk:=Jr;rw[Jr,gr rfl]at E;refine ao (cL d gn Tn) (JJ ?_);all_goals exact⟨(),CT,E⟩
end
end Go.Proofs.YtldnkkkooabaeaaGreat

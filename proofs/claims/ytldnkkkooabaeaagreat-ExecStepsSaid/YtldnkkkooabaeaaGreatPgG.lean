/- Programs: taken apart: three objects (a node's struct, its variables, its equations); what is emitted: the walk (21). -/
import Derived.Test.YtldnkkkooabaeaaGreatPgEb
set_option linter.all false
set_option maxRecDepth 20000
namespace Go.Proofs.YtldnkkkooabaeaaGreat
open Go.Nk
section
variable {B t:List ae} {q c d:Nat} {a b e a' o o' x y:ae}
def iV(B:List ae)(q c d:Nat)(a b e:ae):List ae:=((B.set d e).set c b).set q a
structure Ub(B:List ae)(q c d:Nat):Prop where
 lq:q<B.length
 lc:c<B.length
 ld:d<B.length
 aBg:q≠c
 qd:q≠d
 aBi:c≠d
theorem tv:(iV B q c d a b e).length=B.length:=by simp[iV]
theorem LX:(iV B q c d a b e++t).length=B.length+t.length:=by simp[iV]
theorem Ak(k:Ub B q c d):(iV B q c d a b e++t)[q]? =some a:=by rw[OR (by simpa[iV]using k.lq)];simp[iV,k.lq]
theorem aoM(k:Ub B q c d):(iV B q c d a b e++t)[c]? =some b:=by rw[OR (by simpa[iV]using k.lc)];simp[iV,k.lc,k.aBg]
theorem aoN(k:Ub B q c d):(iV B q c d a b e++t)[d]? =some e:=by rw[OR (by simpa[iV]using k.ld)];simp[iV,k.ld,k.qd,k.aBi]
theorem ahZ(k:Ub B q c d):(iV B q c d a b e++t).set q a'=iV B q c d a' b e++t:=by rw[FT _ _ (by simpa[iV]using k.lq)];simp[iV]
theorem ah0(k:Ub B q c d):(iV B q c d a b e++t).set c a'=iV B q c d a a' e++t:=by rw[FT _ _ (by simpa[iV]using k.lc)];simp only[iV];rw[List.set_comm _ _ k.aBg,List.set_set]
theorem ah1(k:Ub B q c d):(iV B q c d a b e++t).set d a'=iV B q c d a b a'++t:=by rw[FT _ _ (by simpa[iV]using k.ld)];simp only[iV];rw[List.set_comm _ _ k.qd,List.set_comm _ _ k.aBi,List.set_set]
theorem Gm:(iV B q c d a b e++(o::t))[B.length]? =some o:=by rw[IF (by simp[iV])];simp[iV]
theorem asP:(iV B q c d a b e++(x::o::t))[B.length+1]? =some o:=by rw[IF (by simp[iV])];simp[iV]
theorem Aj:(iV B q c d a b e++(o::t)).set B.length o'=iV B q c d a b e++(o'::t):=by rw[aab _ _ (by simp[iV])];simp[iV]
theorem aoz:(iV B q c d a b e++(x::o::t)).set (B.length+1) o'=iV B q c d a b e++(x::o'::t):=by rw[aab _ _ (by simp[iV])];simp[iV]
theorem aoO{u v w:ae}(k:Ub B q c d):iV (iV B q c d a b e++t) q c d u v w=iV B q c d u v w++t:=by have h1:=ah1 (a':=w) (a:=a) (b:=b) (e:=e) (t:=t) k;have h2:=ah0 (a':=v) (a:=a) (b:=b) (e:=w) (t:=t) k;have h3:=ahZ (a':=u) (a:=a) (b:=v) (e:=w) (t:=t) k;show((((iV B q c d a b e++t).set d w).set c v).set q u)=_;rw[h1,h2,h3]
theorem Ub.app(k:Ub B q c d):Ub (iV B q c d a b e++t) q c d:=by obtain⟨k1,k2,k3,k4,k5,k6⟩:=k;refine⟨?_,?_,?_,k4,k5,k6⟩<;>rw[LX]<;>omega
theorem asT(h1:B[q]? =some a)(h2:B[c]? =some b)(h3:B[d]? =some e):iV B q c d a b e=B:=by unfold iV;rw[LY h3,LY h2,LY h1]
end
structure Ns where
 p:fc
 i:Nat
 first:B3
 nm:B3
 ia:Nat
 il:Nat
 oa:Nat
 ol:Nat
 st:Em
def oN(c d:Nat)(v:Ns):ae:=⟨.loc,10,[[.sl (v.p.en.map kF),.sl (v.p.nodes.map fe),.int .i64 v.i,.str v.first,.int .i64 v.st.R,.str v.nm,.own v.ia v.il 0 v.il,.own v.oa v.ol 0 v.ol,.own c v.st.vs.length 0 v.st.vs.length,.own d v.st.qs.length 0 v.st.qs.length]]⟩
def cV(v:Ns):ae:=⟨.aV,5,v.st.vs.map eu⟩
def cQ(v:Ns):ae:=⟨.aV,10,v.st.qs.map iK⟩
def hH(B:List ae)(q c d:Nat)(v:Ns):List ae:=iV B q c d (oN c d v) (cV v) (cQ v)
structure OH(B:List ae)(q c d:Nat)(v:Ns):Prop where
 hq:B[q]? =some (oN c d v)
 hc:B[c]? =some (cV v)
 Z:B[d]? =some (cQ v)
 k:Ub B q c d
 ia:v.ia<B.length
 oa:v.oa<B.length
theorem axe{a b:Em}(h1:a.R=b.R)(h2:a.vs=b.vs)(h3:a.qs=b.qs):a=b:=by cases a;cases b;simp_all
theorem OH.u{B:List ae}{q c d c' d':Nat}{v v':Ns}(h:OH B q c d v)(h':OH B q c' d' v'):c=c'/\d=d'/\v=v':=by
 have Y:=abc (h.hq.symm.trans h'.hq);simp only[oN,ae.mk.injEq,DO,J.sl.injEq,J.int.injEq,J.str.injEq,J.own.injEq,Bt,Xv]at Y;obtain⟨a1,a2,a3,a4,a5,aJd,⟨aJe,aJf,_⟩,⟨aJh,a10,_⟩,⟨a11,_⟩,a13,_⟩:=Y;subst a11;subst a13;have e2:=abc (h.hc.symm.trans h'.hc);have e3:=abc (h.Z.symm.trans h'.Z);simp only[cV,cQ,ae.mk.injEq,Bt]at e2 e3;obtain⟨p,i,f,nm,ia,il,oa,ol,st⟩:=v;obtain⟨p',i',f',nm',ia',il',oa',ol',fr⟩:=v';dsimp only at*;have hi:i=i':=by omega
 have lO:p=p':=by obtain⟨x1,x2⟩:=p;obtain⟨y1,y2⟩:=p';dsimp only at a1 a2;rw[map_inj sN _ _ a1,map_inj Jd _ _ a2]
 have I:st=fr:=axe a5 (map_inj oY _ _ e2) (map_inj z8 _ _ e3);subst hi;subst lO;subst I;subst a4;subst aJd;subst aJe;subst aJf;subst aJh;subst a10;exact⟨rfl,rfl,rfl⟩
theorem OH.put{B:List ae}{q c d:Nat}{v:Ns}(h:OH B q c d v):hH B q c d v=B:=asT h.hq h.hc h.Z
theorem OH.of{B t:List ae}{q c d:Nat}{v:Ns}(k:Ub B q c d)(h1:v.ia<B.length)(h2:v.oa<B.length):OH (hH B q c d v++t) q c d v:=
 ⟨Ak k,aoM k,aoN k,k.app,by unfold hH;rw[LX];omega,by unfold hH;rw[LX];omega⟩
noncomputable def E6{α:Type}(args:α->Ab)(f:Ns->α->Prop×J×Em):Ab->List ae->o9:=
 iY (λ(x:(Nat×Nat×Nat)×Ns×α) a B=>a= .ptr x.1.1 1 0 0::args x.2.2/\OH B x.1.1 x.1.2.1 x.1.2.2 x.2.1) (λx=>((f x.2.1 x.2.2).1,(f x.2.1 x.2.2).2.1)) λx B=>hH B x.1.1 x.1.2.1 x.1.2.2 {x.2.1 with st:=(f x.2.1 x.2.2).2.2}
theorem sw{α:Type}{args:α->Ab}(ha:tP args)(f:Ns->α->Prop×J×Em){B t:List ae}{q c d:Nat}{v:Ns}(k:Ub B q c d)(h1:v.ia<B.length)(h2:v.oa<B.length)(a:α):
 E6 args f (.ptr q 1 0 0::args a) (hH B q c d v++t)=⟨(f v a).1,(f v a).2.1,hH B q c d {v with st:=(f v a).2.2}++t⟩:=by
 unfold E6;rw[fh (x:=((q,c,d),v,a)) ?_ ⟨rfl,OH.of k h1 h2⟩]
 .simp only;congr 1;exact aoO k
 .rintro⟨⟨q1,c1,d1⟩,v1,a1⟩ ⟨⟨q2,c2,d2⟩,v2,a2⟩ a B ⟨Y,i1⟩ ⟨e2,i2⟩
  simp only at Y e2 i1 i2;rw[Y]at e2;simp only[DO,J.ptr.injEq,Xv]at e2;obtain⟨rfl,e3⟩:=e2;obtain⟨rfl,rfl,rfl⟩:=i1.u i2;rw[ha _ _ e3]
def aAk(res:List DR)(r:J)(B:List ae)(q c d:Nat)(v:Ns):cA->DS->Prop
 | .exit _,_=>False
 |_,s=>(aS s res).1/\(aS s res).2=r/\∃u t,s.B=hH B q c d u++t/\u=v
theorem dN{res:List DR}{r:J}{s:DS}{B:List ae}{q c d:Nat}{v:Ns}:aAk res r B q c d v .ret s=((aS s res).1/\(aS s res).2=r/\∃u t,s.B=hH B q c d u++t/\u=v):=rfl
theorem ez.RA{P:Program}{ps I}{fn:FuncId}{dd:ay}{N:Nat}{α:Type}{args:α->Ab}{f:Ns->α->Prop×J×Em}(h1:sf P ps)(h2:si P I)(hm:mT P fn N dd=true)
 (hN:∀a,(args a).length+1=N) (E:∀v a k,((f v a).2.1).qA k=true)
 (k:∀q c d B v a,Ub B q c d->v.ia<B.length->v.oa<B.length->(f v a).1->gP (dJ.of ps I) B.length dd.code (aAk dd.res (f v a).2.1 B q c d {v with st:=(f v a).2.2}) ⟨(0,.ptr q 1 0 0)::aO 1 (args a),hH B q c d v++[]⟩):ez P fn (E6 args f):=by
 refine ez.I0 h1 h2 hm (λx a B h=>by rw[h.1,IS,hN]) λx a B h bE=>?_;obtain⟨⟨q,c,d⟩,v,x⟩:=x;obtain⟨rfl,hi⟩:=h;simp only at hi bE|-;have:=k q c d B v x hi.k hi.ia hi.oa bE;rw[hi.put,xz]at this;refine yC (λe s hq=>?_) this;have key:((aS s dd.res).1/\(aS s dd.res).2=(f v x).2.1/\∃u t,s.B=hH B q c d u++t/\u={v with st:=(f v x).2.2})->Vo dd.res (f v x).2.1 B (hH B q c d {v with st:=(f v x).2.2}) .ret s:=by
  rintro⟨g1,g2,u,t,g3,rfl⟩
  refine⟨g1,g2,E _ _ _,tv,⟨t,g3⟩,λi o ho=>?_⟩;simp only[hH,iV,Fa,List.length_set]at ho;split at ho
  .simp only[hi.k.lq,Bp,GB]at ho;subst ho;right;have a1:=hi.ia;have a2:=hi.oa;have a3:=hi.k.lc;have a4:=hi.k.ld;simp[oN,ae.cut,J.cut,J.qA,a1,a2,a3,a4]
  .split at ho
   .simp only[hi.k.lc,Bp,GB]at ho;subst ho;exact .inr rfl
   .split at ho
    .simp only[hi.k.ld,Bp,GB]at ho;subst ho;exact .inr rfl
    .exact .inl ho
 cases e with
 |normal=>exact key hq
 |exit id=>exact hq.elim
 |ret=>exact key hq
structure To where
 kind:Int
 op:Int
 args:List yI
 init:Option Ba
 node:Int
 reset:Bool
 ev:B3
 en:Int
def Tp:Option Ba->J
 |none=> .nil
 |some v=> .sl (cC v)
theorem asV:∀x y,Tp x=Tp y->x=y
 |none,none,_=>rfl
 |some a,some b,h=>by simp only[Tp,J.sl.injEq]at h;rw[sO h]
 |none,some _,h=>by cases h
 |some _,none,h=>by cases h
@[reducible] def Ji(x:To):Ab:=[.int .i64 x.kind,.nil,.int .i64 x.op,.sl (x.args.map eD),Tp x.init,.int .i64 x.node,.bool x.reset,.str x.ev,.int .i64 x.en,.nil]
theorem aoP:∀x y,Ji x=Ji y->x=y:=by
 rintro⟨a,b,c,d,e,f,g,h⟩ ⟨a',b',c',d',e',f',g',h'⟩ hh
 simp only[Ji,DO,J.str.injEq,J.int.injEq,J.sl.injEq,J.bool.injEq,Bt,Xv]at hh;obtain⟨rfl,rfl,h1,h2,rfl,rfl,rfl,rfl⟩:=hh;rw[map_inj qJ _ _ h1,asV _ _ h2]
def RE(x:To)(names:BS)(on:List gT):Pl:=⟨x.kind,names,x.op,x.args,x.init.getD [],x.node,x.reset,x.ev,x.en,on⟩
def OI:Option BS->J
 |none=> .nil
 |some l=> .sl (cW l)
theorem ahY:∀x y,OI x=OI y->x=y
 |none,none,_=>rfl
 |some a,some b,h=>by simp only[OI,J.sl.injEq]at h;rw[Dr h]
 |none,some _,h=>by cases h
 |some _,none,h=>by cases h
abbrev EmA:=To×Option BS×Ty×List gT
def NQ(x:EmA):Ab:=[.agg (Ji x.1),OI x.2.1,.agg (dE x.2.2.1),.sl (x.2.2.2.map eD)]
theorem akp:tP NQ:=λx y h=>by obtain⟨a,b,c,d⟩:=x;obtain⟨a',b',c',d'⟩:=y;injection h with h1 h;injection h with h2 h;injection h with h3 h;injection h with h4 h;injection h1 with h1;injection h4 with h4;have Y:a=a':=aoP _ _ h1;have e2:b=b':=ahY _ _ h2;have e3:c=c':=qI _ _ h3;have e4:d=d':=map_inj qJ _ _ h4;rw[Y,e2,e3,e4]
def LS(f:B3)(st:Em)(n:Nat):Prop:=f.length<=1000/\0<=st.R/\st.R+n<=1000000/\st.vs.length+n<=1000000/\st.qs.length+n<=1000000
noncomputable def Yt:Ab->List ae->o9:=E6 NQ λv x=>(LS v.first v.st 1,.str (lT v.first (RE x.1 [] []) (x.2.1.getD []) x.2.2.1 x.2.2.2 v.st).1,(lT v.first (RE x.1 [] []) (x.2.1.getD []) x.2.2.1 x.2.2.2 v.st).2)
theorem aBk{B t:List ae}{q c d:Nat}{v:Ns}(k:Ub B q c d)(h1:v.ia<B.length)(h2:v.oa<B.length)(x:To)(nm:Option BS)(ty:Ty)(on:List gT):
 Yt [.ptr q 1 0 0,.agg (Ji x),OI nm,.agg (dE ty),.sl (on.map eD)] (hH B q c d v++t)=
  ⟨LS v.first v.st 1,.str (lT v.first (RE x [] []) (nm.getD []) ty on v.st).1,hH B q c d {v with st:=(lT v.first (RE x [] []) (nm.getD []) ty on v.st).2}++t⟩:=sw akp _ k h1 h2 (x,nm,ty,on)
theorem Dq:OI none= .nil:=rfl
theorem tz(l:BS):OI (some l)= .sl (cW l):=rfl
theorem Jm:Tp none= .nil:=rfl
theorem Co(l:Ba):Tp (some l)= .sl (cC l):=rfl
theorem LZ{B t:List ae}{q c d:Nat}{a b e:ae}{u:Ns}(h1:a=oN c d u)(h2:b=cV u)(h3:e=cQ u):∃u' t',iV B q c d a b e++t=hH B q c d u'++t'/\u'=u:=⟨u,t,by rw[h1,h2,h3];rfl,rfl⟩
theorem p9(f:B3)(k:Int):f++46::Lib.itoa k=cJ f k:=by simp[cJ]
theorem Yz(vs:List Va)(x:Va):(⟨.aV,5,vs.map eu++[eu x]⟩:ae)=⟨.aV,5,(vs++[x]).map eu⟩:=by simp
theorem L0(qs:List Pl)(x:Pl):(⟨.aV,10,qs.map iK++[iK x]⟩:ae)=⟨.aV,10,(qs++[x]).map iK⟩:=by simp
theorem L3{c d:Nat}{p:fc}{i:Nat}{f n0:B3}{ia il oa ol:Nat}{R:Int}{Mg:List Va}{g8:List Pl}{a b:Nat}(h1:Mg.length=a)(h2:g8.length=b):
 (⟨.loc,10,[[.sl (p.en.map kF),.sl (p.nodes.map fe),.int .i64 i,.str f,.int .i64 R,.str n0,.own ia il 0 il,.own oa ol 0 ol,.own c a 0 a,.own d b 0 b]]⟩:ae)=oN c d ⟨p,i,f,n0,ia,il,oa,ol,⟨R,Mg,g8⟩⟩:=by
 subst h1;subst h2;rfl
theorem ahX:ez Tryz.prog 107 Yt:=by
 refine ez.RA (ps:=[(139,RM)]) (I:=[]) ⟨aID,BB⟩ trivial aF4 (λ_=>rfl) (λ_ _ _=>rfl) λq c d B v x k h1 h2 bE=>?_;obtain⟨x,nm,⟨t1,t2,t3⟩,on⟩:=x;obtain⟨b0,b1,b2,b3,b4⟩:=bE;obtain⟨p,i,f,n0,ia,il,oa,ol,⟨R,vs,qs⟩⟩:=v;dsimp only at*;have gq:=λa b e t=>Ak (a:=a) (b:=b) (e:=e) (t:=t) k;have gc:=λa b e t=>aoM (a:=a) (b:=b) (e:=e) (t:=t) k;have gd:=λa b e t=>aoN (a:=a) (b:=b) (e:=e) (t:=t) k;have sq:=λa b e t a'=>ahZ (a:=a) (b:=b) (e:=e) (t:=t) (a':=a') k;have sc:=λa b e t a'=>ah0 (a:=a) (b:=b) (e:=e) (t:=t) (a':=a') k;have sd:=λa b e t a'=>ah1 (a:=a) (b:=b) (e:=e) (t:=t) (a':=a') k;obtain⟨k1,op,args,init,node,rs,ev,en⟩:=x;have nT:NR (R+1):=by unfold NR;omega
 have Hb:=RN nT;have Hg:∀nm:BS,lT f (RE ⟨k1,op,args,init,node,rs,ev,en⟩ [] []) nm ⟨t1,t2,t3⟩ on ⟨R,vs,qs⟩=if nm=[]then(cJ f (R+1),⟨R+1,vs++[⟨cJ f (R+1),t1,t2,t3,on⟩],qs++[⟨k1,[cJ f (R+1)],op,args,init.getD [],node,rs,ev,en,on⟩]⟩)
  else(nm.getD 0 [],⟨R,vs,qs++[⟨k1,nm,op,args,init.getD [],node,rs,ev,en,on⟩]⟩):=λnm=>rfl
 rw[Hg];rcases nm with _|nl
 .rw[gr (show(none:Option BS).getD []=[] from rfl)];rcases init with _|TU
  .refine ao (ey @eV.eq_1 @wY @NQ.eq_1 @Dq @Jm @hH.eq_1 @oN.eq_1 @cV.eq_1 (ey @cQ.eq_1 @AT.{0} @UP @tv @Gm @Aj gq gc (fF gd sq sc sd @dN))) (JJ ?_);refine⟨by simp only[gj];omega,nT,by simp only[gj];omega,by omega,by omega,p9 _ _,?_⟩;rw[p9];exact LZ (L3 (by simp) (by simp)) (Yz vs ⟨_,t1,t2,t3,on⟩) (L0 qs ⟨k1,[_],op,args,[],node,rs,ev,en,on⟩)
  .refine ao (ey @eV.eq_1 @wY @NQ.eq_1 @Dq @Co @hH.eq_1 @oN.eq_1 @cV.eq_1 (ey @cQ.eq_1 @AT.{0} @UP @tv @Gm @Aj gq gc (fF gd sq sc sd @dN))) (JJ ?_);refine⟨by simp only[gj];omega,nT,by simp only[gj];omega,by omega,by omega,p9 _ _,?_⟩;rw[p9];exact LZ (L3 (by simp) (by simp)) (Yz vs ⟨_,t1,t2,t3,on⟩) (L0 qs ⟨k1,[_],op,args,TU,node,rs,ev,en,on⟩)
 rcases nl with _|⟨s0,nr⟩
 .rw[gr (show(some ([]:BS)).getD []=[] from rfl)];have hz:((([]:BS).length:Nat):Int)=0:=rfl;rcases init with _|TU
  .refine ao (ey @eV.eq_1 @wY @ak @NQ.eq_1 @tz @Jm @hH.eq_1 @oN.eq_1 (ey @cV.eq_1 @cQ.eq_1 @AT.{0} @UP @tv @Gm @Aj gq (jg gc gd sq sc sd @dN))) (JJ ?_);refine⟨by simp only[gj];omega,nT,by simp only[gj];omega,by omega,by omega,p9 _ _,?_⟩;rw[p9];exact LZ (L3 (by simp) (by simp)) (Yz vs ⟨_,t1,t2,t3,on⟩) (L0 qs ⟨k1,[_],op,args,[],node,rs,ev,en,on⟩)
  .refine ao (ey @eV.eq_1 @wY @ak @NQ.eq_1 @tz @Co @hH.eq_1 @oN.eq_1 (ey @cV.eq_1 @cQ.eq_1 @AT.{0} @UP @tv @Gm @Aj gq (jg gc gd sq sc sd @dN))) (JJ ?_);refine⟨by simp only[gj];omega,nT,by simp only[gj];omega,by omega,by omega,p9 _ _,?_⟩;rw[p9];exact LZ (L3 (by simp) (by simp)) (Yz vs ⟨_,t1,t2,t3,on⟩) (L0 qs ⟨k1,[_],op,args,TU,node,rs,ev,en,on⟩)
 rw[ba (show¬(some (s0::nr)).getD []=[] fromλh=>by cases h)];have hz:¬(((s0::nr).length:Nat):Int)=0:=by simp only[IS];omega
 have KZ:(0:Int)<(((s0::nr).length:Nat):Int):=by simp only[IS];omega
 have g0:(cW (s0::nr)).getD 0 []=[.str s0]:=rfl;have gn:(some (s0::nr)).getD []=s0::nr:=rfl;have gn0:(s0::nr).getD 0 []=s0:=rfl;rw[gn,gn0];generalize D9:s0::nr=nl at*;rcases init with _|TU
 .refine ao (ey @eV.eq_1 @ak @NQ.eq_1 @tz @Jm @hH.eq_1 @oN.eq_1 @cV.eq_1 (ey @cQ.eq_1 @AT.{0} @UP @tv @Gm @Aj gq gd (fF sq sd @dN KZ g0))) (JJ (λhn=>?_));exact LZ (L3 rfl (by simp)) rfl (L0 qs ⟨k1,nl,op,args,[],node,rs,ev,en,on⟩)
 .refine ao (ey @eV.eq_1 @ak @NQ.eq_1 @tz @Co @hH.eq_1 @oN.eq_1 @cV.eq_1 (ey @cQ.eq_1 @AT.{0} @UP @tv @Gm @Aj gq gd (fF sq sd @dN KZ g0))) (JJ (λhn=>?_));exact LZ (L3 rfl (by simp)) rfl (L0 qs ⟨k1,nl,op,args,TU,node,rs,ev,en,on⟩)
end Go.Proofs.YtldnkkkooabaeaaGreat

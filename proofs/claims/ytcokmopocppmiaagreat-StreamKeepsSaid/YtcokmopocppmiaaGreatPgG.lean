/- Programs: taken apart: three objects (a node's struct, its variables, its equations); what is emitted: the walk (21). -/
import Derived.Test.YtcokmopocppmiaaGreatPgEb
set_option linter.all false
set_option maxRecDepth 20000
namespace Go.Proofs.YtcokmopocppmiaaGreat
open Go.Nk
section
variable {hp t:List ak} {q c d:Nat} {a b e a' o o' x y:ak}
def hY(hp:List ak)(q c d:Nat)(a b e:ak):List ak:=((hp.set d e).set c b).set q a
structure Re(hp:List ak)(q c d:Nat):Prop where
 lq:q<hp.length
 lc:c<hp.length
 ld:d<hp.length
 qc:q≠c
 qd:q≠d
 cd:c≠d
theorem qX:(hY hp q c d a b e).length=hp.length:=by simp[hY]
theorem JH:(hY hp q c d a b e++t).length=hp.length+t.length:=by simp[hY]
theorem yD(k:Re hp q c d):(hY hp q c d a b e++t)[q]? =some a:=by rw[List.getElem?_append_left (by simpa[hY]using k.lq)];simp[hY,k.lq]
theorem ajX(k:Re hp q c d):(hY hp q c d a b e++t)[c]? =some b:=by rw[List.getElem?_append_left (by simpa[hY]using k.lc)];simp[hY,k.lc,k.qc]
theorem ajY(k:Re hp q c d):(hY hp q c d a b e++t)[d]? =some e:=by rw[List.getElem?_append_left (by simpa[hY]using k.ld)];simp[hY,k.ld,k.qd,k.cd]
theorem aej(k:Re hp q c d):(hY hp q c d a b e++t).set q a'=hY hp q c d a' b e++t:=by rw[List.set_append_left _ _ (by simpa[hY]using k.lq)];simp[hY]
theorem aek(k:Re hp q c d):(hY hp q c d a b e++t).set c a'=hY hp q c d a a' e++t:=by rw[List.set_append_left _ _ (by simpa[hY]using k.lc)];simp only[hY];rw[List.set_comm _ _ k.qc,List.set_set]
theorem ael(k:Re hp q c d):(hY hp q c d a b e++t).set d a'=hY hp q c d a b a'++t:=by rw[List.set_append_left _ _ (by simpa[hY]using k.ld)];simp only[hY];rw[List.set_comm _ _ k.qd,List.set_comm _ _ k.cd,List.set_set]
theorem El:(hY hp q c d a b e++(o::t))[hp.length]? =some o:=by rw[List.getElem?_append_right (by simp[hY])];simp[hY]
theorem anR:(hY hp q c d a b e++(x::o::t))[hp.length+1]? =some o:=by rw[List.getElem?_append_right (by simp[hY])];simp[hY]
theorem yC:(hY hp q c d a b e++(o::t)).set hp.length o'=hY hp q c d a b e++(o'::t):=by rw[List.set_append_right _ _ (by simp[hY])];simp[hY]
theorem ajK:(hY hp q c d a b e++(x::o::t)).set (hp.length+1) o'=hY hp q c d a b e++(x::o'::t):=by rw[List.set_append_right _ _ (by simp[hY])];simp[hY]
theorem ajZ{u v w}(k:Re hp q c d):hY (hY hp q c d a b e++t) q c d u v w=hY hp q c d u v w++t:=by have h1:=ael (a':=w) (a:=a) (b:=b) (e:=e) (t:=t) k;have h2:=aek (a':=v) (a:=a) (b:=b) (e:=w) (t:=t) k;have h3:=aej (a':=u) (a:=a) (b:=v) (e:=w) (t:=t) k;show((((hY hp q c d a b e++t).set d w).set c v).set q u)=_;rw[h1,h2,h3]
theorem Re.app(k:Re hp q c d):Re (hY hp q c d a b e++t) q c d:=by obtain⟨k1,k2,k3,k4,k5,k6⟩:=k;refine⟨?_,?_,?_,k4,k5,k6⟩<;>rw[JH]<;>omega
theorem anV(h1:hp[q]? =some a)(h2:hp[c]? =some b)(h3:hp[d]? =some e):hY hp q c d a b e=hp:=by unfold hY;rw[OD h3,OD h2,OD h1]
end
structure Ns where
 p:cY
 i:Nat
 first:List UInt8
 nm:List UInt8
 ia:Nat
 il:Nat
 oa:Nat
 ol:Nat
 st:Em
def oN(c d:Nat)(v:Ns):ak:=⟨.loc,10,[[.sl (v.p.en.map jQ),.sl (v.p.nodes.map ef),.int .i64 v.i,.str v.first,.int .i64 v.st.fr,.str v.nm,.own v.ia v.il 0 v.il,.own v.oa v.ol 0 v.ol,.own c v.st.vs.length 0 v.st.vs.length,.own d v.st.qs.length 0 v.st.qs.length]]⟩
def cV(v:Ns):ak:=⟨.aN,5,v.st.vs.map dZ⟩
def cQ(v:Ns):ak:=⟨.aN,10,v.st.qs.map fJ⟩
def fY(hp:List ak)(q c d:Nat)(v:Ns):List ak:=hY hp q c d (oN c d v) (cV v) (cQ v)
structure Nis(hp:List ak)(q c d:Nat)(v:Ns):Prop where
 hq:hp[q]? =some (oN c d v)
 hc:hp[c]? =some (cV v)
 hd:hp[d]? =some (cQ v)
 k:Re hp q c d
 ia:v.ia<hp.length
 oa:v.oa<hp.length
theorem arx{a b:Em}(h1:a.fr=b.fr)(h2:a.vs=b.vs)(h3:a.qs=b.qs):a=b:=by cases a;cases b;simp_all
theorem Nis.u{hp}{q c d c' d'}{v v'}(h:Nis hp q c d v)(h':Nis hp q c' d' v'):c=c'/\d=d'/\v=v':=by
 have e1:=Option.some.inj (h.hq.symm.trans h'.hq);simp only[oN,ak.mk.injEq,List.cons.injEq,DV.sl.injEq,DV.int.injEq,DV.str.injEq,DV.own.injEq,true_and,and_true]at e1;obtain⟨a1,a2,a3,a4,a5,a6,⟨a7,a8,_⟩,⟨a9,a10,_⟩,⟨a11,_⟩,a13,_⟩:=e1;subst a11;subst a13;have e2:=Option.some.inj (h.hc.symm.trans h'.hc);have e3:=Option.some.inj (h.hd.symm.trans h'.hd);simp only[cV,cQ,ak.mk.injEq,true_and]at e2 e3;obtain⟨p,i,f,nm,ia,il,oa,ol,st⟩:=v;obtain⟨p',i',f',nm',ia',il',oa',ol',st'⟩:=v';dsimp only at*;have hi:i=i':=by omega
 have nq:p=p':=by obtain⟨x1,x2⟩:=p;obtain⟨y1,y2⟩:=p';dsimp only at a1 a2;rw[map_inj vh _ _ a1,map_inj GU _ _ a2]
 have hs:=arx a5 (map_inj yr _ _ e2) (map_inj M4 _ _ e3);subst hi;subst nq;subst hs;subst a4;subst a6;subst a7;subst a8;subst a9;subst a10;exact⟨rfl,rfl,rfl⟩
def Nis.put{hp}{q c d}{v}(h:Nis hp q c d v):=show fY hp q c d v=_ from anV h.hq h.hc h.hd
theorem Nis.of{hp t:List ak}{q c d}{v:Ns}(k:Re hp q c d)(h1:v.ia<hp.length)(h2:v.oa<hp.length):Nis (fY hp q c d v++t) q c d v:=
 ⟨yD k,ajX k,ajY k,k.app,by unfold fY;rw[JH];omega,by unfold fY;rw[JH];omega⟩
noncomputable def Dn{α:Type}(args:α->List DV)(f:Ns->α->Prop×DV×Em):List DV->List ak->sj:=
 m7 (λ(x:(Nat×Nat×Nat)×Ns×α) a hp=>a= .ptr x.1.1 1 0 0::args x.2.2/\Nis hp x.1.1 x.1.2.1 x.1.2.2 x.2.1) (λx=>((f x.2.1 x.2.2).1,(f x.2.1 x.2.2).2.1)) λx hp=>fY hp x.1.1 x.1.2.1 x.1.2.2 {x.2.1 with st:=(f x.2.1 x.2.2).2.2}
theorem qb{α}{args:α->List DV}(ha:GK args)(f){hp t:List ak}{q c d}{v:Ns}(k:Re hp q c d)(h1:v.ia<hp.length)(h2:v.oa<hp.length)(a:α):
 Dn args f (.ptr q 1 0 0::args a) (fY hp q c d v++t)=⟨(f v a).1,(f v a).2.1,fY hp q c d {v with st:=(f v a).2.2}++t⟩:=by
 unfold Dn;rw[jJ (x:=((q,c,d),v,a)) ?_ ⟨rfl,Nis.of k h1 h2⟩]
 ·simp only;congr 1;exact ajZ k
 ·rintro⟨⟨q1,c1,d1⟩,v1,a1⟩ ⟨⟨q2,c2,d2⟩,v2,a2⟩ a hp ⟨e1,i1⟩ ⟨e2,i2⟩
  simp only at e1 e2 i1 i2;rw[e1]at e2;simp only[List.cons.injEq,DV.ptr.injEq,and_true]at e2;obtain⟨rfl,e3⟩:=e2;obtain⟨rfl,rfl,rfl⟩:=i1.u i2;rw[ha _ _ e3]
def auH(res:List DR)(r:DV)(hp:List ak)(q c d:Nat)(v:Ns):cq->DS->Prop
 | .exit _,_=>False
 |_,s=>(aW s res).1/\(aW s res).2=r/\∃u t,s.hp=fY hp q c d u++t/\u=v
theorem dt{res:List DR}{r:DV}{s:DS}{hp:List ak}{q c d:Nat}{v:Ns}:auH res r hp q c d v .ret s=((aW s res).1/\(aW s res).2=r/\∃u t,s.hp=fY hp q c d u++t/\u=v):=rfl
theorem g9.mkN{P}{ps hs}{fn}{dd:ay}{N}{α}{args:α->List DV}{f}(h1:uU P ps)(h2:uV P hs)(hm:qe P fn N dd=true)
 (hN:∀a,(args a).length+1=N) (hr:∀v a k,((f v a).2.1).rR k=true)
 (k:∀q c d hp v a,Re hp q c d->v.ia<hp.length->v.oa<hp.length->(f v a).1->gO (jL.of ps hs) hp.length dd.code (auH dd.res (f v a).2.1 hp q c d {v with st:=(f v a).2.2}) ⟨(0,.ptr q 1 0 0)::aQ 1 (args a),fY hp q c d v++[]⟩):g9 P fn (Dn args f):=by
 refine g9.mkG h1 h2 hm (λx a hp h=>by rw[h.1,List.length_cons,hN]) λx a hp h bG=> ?_;obtain⟨⟨q,c,d⟩,v,x⟩:=x;obtain⟨rfl,hi⟩:=h;simp only at hi bG|-;have:=k q c d hp v x hi.k hi.ia hi.oa bG;rw[hi.put,List.append_nil]at this;refine XT (λe s hq=> ?_) this;have key:((aW s dd.res).1/\(aW s dd.res).2=(f v x).2.1/\∃u t,s.hp=fY hp q c d u++t/\u={v with st:=(f v x).2.2})->agb dd.res (f v x).2.1 hp (fY hp q c d {v with st:=(f v x).2.2}) .ret s:=by
  rintro⟨g1,g2,u,t,g3,rfl⟩
  refine⟨g1,g2,hr _ _ _,qX,⟨t,g3⟩,λi o ho=> ?_⟩;simp only[fY,hY,List.getElem?_set,List.length_set]at ho;split at ho
  ·simp only[hi.k.lq,if_true,Option.some.injEq]at ho;subst ho;right;have a1:=hi.ia;have a2:=hi.oa;have a3:=hi.k.lc;have a4:=hi.k.ld;simp[oN,ak.cut,DV.cut,DV.rR,a1,a2,a3,a4]
  ·split at ho
   ·simp only[hi.k.lc,if_true,Option.some.injEq]at ho;subst ho;exact .inr rfl
   ·split at ho
    ·simp only[hi.k.ld,if_true,Option.some.injEq]at ho;subst ho;exact .inr rfl
    ·exact .inl ho
 cases e with
 |normal=>exact key hq
 |exit id=>exact hq.elim
 |ret=>exact key hq
structure PlR where
 kind:Int
 op:Int
 args:List xx
 init:Option (List Int)
 node:Int
 reset:Bool
 ev:List UInt8
 en:Int
def oSl:Option (List Int)->DV
 |none=> .nil
 |some v=> .sl (cX v)
theorem anX:∀x y,oSl x=oSl y->x=y
 |none,none,_=>rfl
 |some a,some b,h=>by simp only[oSl,DV.sl.injEq]at h;rw[sH h]
 |none,some _,h=>by cases h
 |some _,none,h=>by cases h
@[reducible] def G0(x:PlR):List DV:=[.int .i64 x.kind,.nil,.int .i64 x.op,.sl (x.args.map eD),oSl x.init,.int .i64 x.node,.bool x.reset,.str x.ev,.int .i64 x.en,.nil]
theorem aj0:∀x y,G0 x=G0 y->x=y:=by
 rintro⟨a,b,c,d,e,f,g,h⟩ ⟨a',b',c',d',e',f',g',h'⟩ hh
 simp only[G0,List.cons.injEq,DV.str.injEq,DV.int.injEq,DV.sl.injEq,DV.bool.injEq,true_and,and_true]at hh;obtain⟨rfl,rfl,h1,h2,rfl,rfl,rfl,rfl⟩:=hh;rw[map_inj mu _ _ h1,anX _ _ h2]
def XQ(x:PlR)(names:List (List UInt8))(on:List dY):Pl:=⟨x.kind,names,x.op,x.args,x.init.getD [],x.node,x.reset,x.ev,x.en,on⟩
def oNm:Option (List (List UInt8))->DV
 |none=> .nil
 |some l=> .sl (dI l)
theorem aei:∀x y,oNm x=oNm y->x=y
 |none,none,_=>rfl
 |some a,some b,h=>by simp only[oNm,DV.sl.injEq]at h;rw[BR h]
 |none,some _,h=>by cases h
 |some _,none,h=>by cases h
abbrev EmA:=PlR×Option (List (List UInt8))×Ty×List dY
def Lm(x:EmA):List DV:=[.agg (G0 x.1),oNm x.2.1,.agg (cK x.2.2.1),.sl (x.2.2.2.map eD)]
theorem agc:GK Lm:=λx y h=>by obtain⟨a,b,c,d⟩:=x;obtain⟨a',b',c',d'⟩:=y;injection h with h1 h;injection h with h2 h;injection h with h3 h;injection h with h4 h;injection h1 with h1;injection h4 with h4;have e1:a=a':=aj0 _ _ h1;have e2:b=b':=aei _ _ h2;have e3:c=c':=qf _ _ h3;have e4:d=d':=map_inj mu _ _ h4;rw[e1,e2,e3,e4]
def JD(f:List UInt8)(st:Em)(n:Nat):Prop:=f.length<=1000/\0<=st.fr/\st.fr+n<=1000000/\st.vs.length+n<=1000000/\st.qs.length+n<=1000000
noncomputable def U7:List DV->List ak->sj:=Dn Lm λv x=>(JD v.first v.st 1,.str (kC v.first (XQ x.1 [] []) (x.2.1.getD []) x.2.2.1 x.2.2.2 v.st).1,(kC v.first (XQ x.1 [] []) (x.2.1.getD []) x.2.2.1 x.2.2.2 v.st).2)
theorem OA{hp t:List ak}{q c d}{v:Ns}(k:Re hp q c d)(h1:v.ia<hp.length)(h2:v.oa<hp.length)(x:PlR)(nm:Option (List (List UInt8)))(ty)(on:List dY):
 U7 [.ptr q 1 0 0,.agg (G0 x),oNm nm,.agg (cK ty),.sl (on.map eD)] (fY hp q c d v++t)=
  ⟨JD v.first v.st 1,.str (kC v.first (XQ x [] []) (nm.getD []) ty on v.st).1,fY hp q c d {v with st:=(kC v.first (XQ x [] []) (nm.getD []) ty on v.st).2}++t⟩:=qb agc _ k h1 h2 (x,nm,ty,on)
theorem BQ:oNm none= .nil:=rfl
theorem q0(l:List (List UInt8)):oNm (some l)= .sl (dI l):=rfl
theorem G4:oSl none= .nil:=rfl
theorem AK(l:List Int):oSl (some l)= .sl (cX l):=rfl
theorem JI{hp t:List ak}{q c d:Nat}{a b e:ak}{u:Ns}(h1:a=oN c d u)(h2:b=cV u)(h3:e=cQ u):∃u' t',hY hp q c d a b e++t=fY hp q c d u'++t'/\u'=u:=⟨u,t,by rw[h1,h2,h3];rfl,rfl⟩
theorem oA(f)(k):f++46::Lib.itoa k=cj f k:=by simp[cj]
theorem Ve(vs:List Va)(x:Va):(⟨.aN,5,vs.map dZ++[dZ x]⟩:ak)=⟨.aN,5,(vs++[x]).map dZ⟩:=by simp
theorem JK(qs:List Pl)(x):(⟨.aN,10,qs.map fJ++[fJ x]⟩:ak)=⟨.aN,10,(qs++[x]).map fJ⟩:=by simp
theorem JL{c d:Nat}{p:cY}{i:Nat}{f n0:List UInt8}{ia il oa ol:Nat}{fr:Int}{vs':List Va}{qs':List Pl}{a b:Nat}(h1:vs'.length=a)(h2:qs'.length=b):
 (⟨.loc,10,[[.sl (p.en.map jQ),.sl (p.nodes.map ef),.int .i64 i,.str f,.int .i64 fr,.str n0,.own ia il 0 il,.own oa ol 0 ol,.own c a 0 a,.own d b 0 b]]⟩:ak)=oN c d ⟨p,i,f,n0,ia,il,oa,ol,⟨fr,vs',qs'⟩⟩:=by
 subst h1;subst h2;rfl
theorem aeh:g9 Tryz.prog 100 U7:=by
 refine g9.mkN (ps:=[(135,OE)]) (hs:=[]) ⟨AO,trivial⟩ trivial CD (λ_=>rfl) (λ_ _ _=>rfl) λq c d hp v x k h1 h2 bG=> ?_;obtain⟨x,nm,⟨t1,t2,t3⟩,on⟩:=x;obtain⟨b0,b1,b2,b3,b4⟩:=bG;obtain⟨p,i,f,n0,ia,il,oa,ol,⟨fr,vs,qs⟩⟩:=v;dsimp only at*;have gq:=λa b e t=>yD (a:=a) (b:=b) (e:=e) (t:=t) k;have gc:=λa b e t=>ajX (a:=a) (b:=b) (e:=e) (t:=t) k;have gd:=λa b e t=>ajY (a:=a) (b:=b) (e:=e) (t:=t) k;have sq:=λa b e t a'=>aej (a:=a) (b:=b) (e:=e) (t:=t) (a':=a') k;have sc:=λa b e t a'=>aek (a:=a) (b:=b) (e:=e) (t:=t) (a':=a') k;have sd:=λa b e t a'=>ael (a:=a) (b:=b) (e:=e) (t:=t) (a':=a') k;obtain⟨k1,op,args,init,node,rs,ev,en⟩:=x;have lI:OG (fr+1):=by unfold OG;omega
 have hil:=OH lI;have hem:∀nm:List (List UInt8),kC f (XQ ⟨k1,op,args,init,node,rs,ev,en⟩ [] []) nm ⟨t1,t2,t3⟩ on ⟨fr,vs,qs⟩=if nm=[]then(cj f (fr+1),⟨fr+1,vs++[⟨cj f (fr+1),t1,t2,t3,on⟩],qs++[⟨k1,[cj f (fr+1)],op,args,init.getD [],node,rs,ev,en,on⟩]⟩)
  else(nm.getD 0 [],⟨fr,vs,qs++[⟨k1,nm,op,args,init.getD [],node,rs,ev,en,on⟩]⟩):=λnm=>rfl
 rw[hem];rcases nm with _|nl
 ·rw[if_pos (show(none:Option (List (List UInt8))).getD []=[] from rfl)];rcases init with _|ini
  ·refine aq (A9 @dW.eq_1 @vo @Lm.eq_1 @BQ @G4 @fY.eq_1 @oN.eq_1 @cV.eq_1 (A9 @cQ.eq_1 @List.append_assoc.{0} @Nat.add_zero @qX @El @yC gq gc (A5 gd sq sc sd @dt))) (JJ ?_);refine⟨by simp only[iI];omega,lI,by simp only[iI];omega,by omega,by omega,oA _ _,?_⟩;rw[oA];exact JI (JL (by simp) (by simp)) (Ve vs ⟨_,t1,t2,t3,on⟩) (JK qs ⟨k1,[_],op,args,[],node,rs,ev,en,on⟩)
  ·refine aq (A9 @dW.eq_1 @vo @Lm.eq_1 @BQ @AK @fY.eq_1 @oN.eq_1 @cV.eq_1 (A9 @cQ.eq_1 @List.append_assoc.{0} @Nat.add_zero @qX @El @yC gq gc (A5 gd sq sc sd @dt))) (JJ ?_);refine⟨by simp only[iI];omega,lI,by simp only[iI];omega,by omega,by omega,oA _ _,?_⟩;rw[oA];exact JI (JL (by simp) (by simp)) (Ve vs ⟨_,t1,t2,t3,on⟩) (JK qs ⟨k1,[_],op,args,ini,node,rs,ev,en,on⟩)
 rcases nl with _|⟨s0,nr⟩
 ·rw[if_pos (show(some ([]:List (List UInt8))).getD []=[] from rfl)];have hz:((([]:List (List UInt8)).length:Nat):Int)=0:=rfl;rcases init with _|ini
  ·refine aq (A9 @dW.eq_1 @vo @aj @Lm.eq_1 @q0 @G4 @fY.eq_1 @oN.eq_1 (A9 @cV.eq_1 @cQ.eq_1 @List.append_assoc.{0} @Nat.add_zero @qX @El @yC gq (A6 gc gd sq sc sd @dt))) (JJ ?_);refine⟨by simp only[iI];omega,lI,by simp only[iI];omega,by omega,by omega,oA _ _,?_⟩;rw[oA];exact JI (JL (by simp) (by simp)) (Ve vs ⟨_,t1,t2,t3,on⟩) (JK qs ⟨k1,[_],op,args,[],node,rs,ev,en,on⟩)
  ·refine aq (A9 @dW.eq_1 @vo @aj @Lm.eq_1 @q0 @AK @fY.eq_1 @oN.eq_1 (A9 @cV.eq_1 @cQ.eq_1 @List.append_assoc.{0} @Nat.add_zero @qX @El @yC gq (A6 gc gd sq sc sd @dt))) (JJ ?_);refine⟨by simp only[iI];omega,lI,by simp only[iI];omega,by omega,by omega,oA _ _,?_⟩;rw[oA];exact JI (JL (by simp) (by simp)) (Ve vs ⟨_,t1,t2,t3,on⟩) (JK qs ⟨k1,[_],op,args,ini,node,rs,ev,en,on⟩)
 rw[if_neg (show¬(some (s0::nr)).getD []=[] fromλh=>by cases h)];have hz:¬(((s0::nr).length:Nat):Int)=0:=by simp only[List.length_cons];omega
 have JM:(0:Int)<(((s0::nr).length:Nat):Int):=by simp only[List.length_cons];omega
 have g0:(dI (s0::nr)).getD 0 []=[.str s0]:=rfl;have gn:(some (s0::nr)).getD []=s0::nr:=rfl;have gn0:(s0::nr).getD 0 []=s0:=rfl;rw[gn,gn0];generalize Ut:s0::nr=nl at*;rcases init with _|ini
 ·refine aq (A9 @dW.eq_1 @aj @Lm.eq_1 @q0 @G4 @fY.eq_1 @oN.eq_1 @cV.eq_1 (A9 @cQ.eq_1 @List.append_assoc.{0} @Nat.add_zero @qX @El @yC gq gd (A5 sq sd @dt JM g0))) (JJ (λhn=> ?_));exact JI (JL rfl (by simp)) rfl (JK qs ⟨k1,nl,op,args,[],node,rs,ev,en,on⟩)
 ·refine aq (A9 @dW.eq_1 @aj @Lm.eq_1 @q0 @AK @fY.eq_1 @oN.eq_1 @cV.eq_1 (A9 @cQ.eq_1 @List.append_assoc.{0} @Nat.add_zero @qX @El @yC gq gd (A5 sq sd @dt JM g0))) (JJ (λhn=> ?_));exact JI (JL rfl (by simp)) rfl (JK qs ⟨k1,nl,op,args,ini,node,rs,ev,en,on⟩)
end Go.Proofs.YtcokmopocppmiaaGreat

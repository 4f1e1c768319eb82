/- Programs: taken apart: how much is emitted; atoms of parts: the walk (21). -/
import Derived.Test.YtldnkkkooabaeaaGreatPgG
import Derived.Test.YtldnkkkooabaeaaGreatPgFc
set_option linter.all false
set_option maxRecDepth 20000
namespace Go.Proofs.YtldnkkkooabaeaaGreat
open Go.Nk
structure Gr(a b:Em)(n:Nat):Prop where
 lo:a.R<=b.R
 R:b.R<=a.R+n
 vs:b.vs.length<=a.vs.length+n
 qs:b.qs.length<=a.qs.length+n
theorem Gr.refl(a:Em):Gr a a 0:=⟨Ch _,by simp,by simp,by simp⟩
theorem Gr.trans{a b c:Em}{n m}(h:Gr a b n)(k:Gr b c m):Gr a c (n+m):=by obtain⟨h1,h2,h3,h4⟩:=h;obtain⟨k1,k2,k3,k4⟩:=k;exact⟨by omega,by omega,by omega,by omega⟩
theorem Gr.mono{a b:Em}{n m}(h:Gr a b n)(k:n<=m):Gr a b m:=by obtain⟨h1,h2,h3,h4⟩:=h;exact⟨by omega,by omega,by omega,by omega⟩
theorem Gr.big{a b:Em}{n m}{f}(h:Gr a b n)(k:LS f a (n+m)):LS f b m:=by obtain⟨h1,h2,h3,h4⟩:=h;obtain⟨k1,k2,k3,k4,k5⟩:=k;exact⟨k1,by omega,by omega,by omega,by omega⟩
theorem LS.mono{a:Em}{n m}{f}(k:LS f a n)(h:m<=n):LS f a m:=by obtain⟨k1,k2,k3,k4,k5⟩:=k;exact⟨k1,by omega,by omega,by omega,by omega⟩
theorem ahV(first)(q)(nm)(t)(on)(st:Em):Gr st (lT first q nm t on st).2 1:=by
 unfold lT;split
 .exact⟨by simp;omega,by simp,by simp,by simp⟩
 .exact⟨by simp,by simp;omega,by simp,by simp⟩
theorem Yn(first)(e)(on)(st:Em):Gr st (kz first e on st) 1:=by
 unfold kz;split
 .exact ahV ..
 .exact(Gr.refl st).mono (by omega)
theorem Cj{p}{node}{first}:∀(l:List Ex) (zS:List (Option (List gT))) (st:Em),(∀x∈l,∀on st,Gr st (iR p node first x on st).2 (2*(az x).length))->Gr st (bZ p node first l zS st).2 (2*(bQ l).length)
 |[],zS,st,_=>by rw[bZ];exact(Gr.refl st).mono (by omega)
 |x::l,[],st,_=>by rw[bZ];exact(Gr.refl st).mono (by omega)
 |x::l,none::r,st,h=>by rw[bZ,bQ,AS];exact(Cj l r st λy hy=>h y (XN _ hy)).mono (by omega)
 |x::l,some on::r,st,h=>by rw[bZ,bQ,AS];have h1:=h x (KV ..) on st;have h2:=Cj l r (iR p node first x on st).2 λy hy=>h y (XN _ hy);exact(h1.trans h2).mono (by omega)
theorem aBO{p}{node}{first}(e:Ex)(h:∀x∈e.ar,∀on st,Gr st (iR p node first x on st).2 (2*(az x).length))(nm)(on)(st:Em):Gr st (fS p node first e nm on st).2 (2*(az e).length):=by
 unfold fS ng;have h1:=Yn first e on st
 have h2:=Cj (p:=p) (node:=node) (first:=first) e.ar (oq p e on) (kz first e on st) h;have h3:=ahV first (y8 p node first e (bZ p node first e.ar (oq p e on) (kz first e on st)).1 (kz first e on st).R) nm ((rF p node e).getD ⟨0,0,0⟩) on (bZ p node first e.ar (oq p e on) (kz first e on st)).2
 refine((h1.trans h2).trans h3).mono ?_;rw[jj,IS];omega
theorem Jf{p}{node}{first}(e):∀(on:List gT) (st:Em),Gr st (iR p node first e on st).2 (2*(az e).length):=by
 induction e using Ex.ind with
 |h e ih=>
  intro on st;rw[tu];split
  .exact(Gr.refl st).mono (by omega)
  .exact aBO e ih [] on st
theorem Rc{p}{node}{first}(e)(nm)(on)(st:Em):Gr st (fS p node first e nm on st).2 (2*(az e).length):=
 aBO e (λx _=>Jf x) nm on st
def b6(p:fc)(node:Nat)(first:B3):List Ex->List gT->Em->List yI×Em
 |[],_,st=>([],st)
 |x::l,on,st=>((iR p node first x on st).1::(b6 p node first l on (iR p node first x on st).2).1,(b6 p node first l on (iR p node first x on st).2).2)
theorem za(p)(node)(first)(on):∀(l:List Ex) (st:Em),bZ p node first l (l.map λ_=>some on) st=b6 p node first l on st
 |[],st=>by rw[DD,bZ];rfl
 |x::l,st=>by rw[p0,bZ,za p node first on l];rfl
theorem akj{p}{node}{first}(l)(on)(st:Em):Gr st (b6 p node first l on st).2 (2*(bQ l).length):=by rw[<-za];exact Cj l _ st λx _=>Jf x
theorem Gl{p}{node}{first}{on}:∀(l:List Ex) (st:Em),(b6 p node first l on st).1.length=l.length
 |[],_=>rfl
 |x::l,st=>by rw[b6];simp[Gl l]
structure Wa(N:Nat)(v:Ns)(e:Ex)(on:List gT):Prop where
 x:E5 v.p v.i e
 fit:ep v.p v.i e on=true
 small:(1<=e.kind/\e.kind<=4)\/(az e).length<N
 on:on.length+(az e).length<=1000
 big:LS v.first v.st (2*(az e).length)
def Yo(x:Ex×List gT):Ab:=[.agg (cO x.1),.sl (x.2.map eD)]
theorem PY:tP Yo:=λx y h=>by obtain⟨a,b⟩:=x;obtain⟨a',b'⟩:=y;injection h with h1 h;injection h with h2 h;injection h1 with h1;injection h2 with h2;have Y:a=a':=Ag _ _ h1;have e2:b=b':=map_inj qJ _ _ h2;rw[Y,e2]
def i_(x:List Ex×List gT):Ab:=[.sl (x.1.map cO),.sl (x.2.map eD)]
theorem asO:tP i_:=λx y h=>by obtain⟨a,b⟩:=x;obtain⟨a',b'⟩:=y;injection h with h1 h;injection h with h2 h;injection h1 with h1;injection h2 with h2;have Y:a=a':=map_inj Ag _ _ h1;have e2:b=b':=map_inj qJ _ _ h2;rw[Y,e2]
noncomputable def qL(N:Nat):Ab->List ae->o9:=E6 Yo λv x=>(Wa N v x.1 x.2,.agg (eD (iR v.p v.i v.first x.1 x.2 v.st).1),(iR v.p v.i v.first x.1 x.2 v.st).2)
theorem Ah(N:Nat){B t:List ae}{q c d:Nat}{v:Ns}(k:Ub B q c d)(h1:v.ia<B.length)(h2:v.oa<B.length)(e:Ex)(on:List gT):
 qL N [.ptr q 1 0 0,.agg (cO e),.sl (on.map eD)] (hH B q c d v++t)=⟨Wa N v e on,.agg (eD (iR v.p v.i v.first e on v.st).1),hH B q c d {v with st:=(iR v.p v.i v.first e on v.st).2}++t⟩:=sw PY _ k h1 h2 (e,on)
structure j_(N:Nat)(v:Ns)(l:List Ex)(on:List gT):Prop where
 x:∀x∈l,E5 v.p v.i x
 fit:∀x∈l,ep v.p v.i x on=true
 small:∀x∈l,(az x).length<N
 on:on.length+(bQ l).length<=1000
 big:LS v.first v.st (2*(bQ l).length)
noncomputable def Jg(N:Nat):Ab->List ae->o9:=E6 i_ λv x=>(j_ N v x.1 x.2,.sl ((b6 v.p v.i v.first x.1 x.2 v.st).1.map eD),(b6 v.p v.i v.first x.1 x.2 v.st).2)
theorem nh(N){B t:List ae}{q c d}{v:Ns}(k:Ub B q c d)(h1:v.ia<B.length)(h2:v.oa<B.length)(l:List Ex)(on:List gT):
 Jg N [.ptr q 1 0 0,.sl (l.map cO),.sl (on.map eD)] (hH B q c d v++t)=⟨j_ N v l on,.sl ((b6 v.p v.i v.first l on v.st).1.map eD),hH B q c d {v with st:=(b6 v.p v.i v.first l on v.st).2}++t⟩:=sw asO _ k h1 h2 (l,on)
section
variable {B t:List ae} {q c d:Nat} {v:Ns} {o o' x y:ae}
def jw:=show(hH B q c d v).length=_ from tv
def Ai:=show(hH B q c d v++(o::t))[B.length]? =_ from Gm
def A8:=show(hH B q c d v++(x::o::t))[B.length+1]? =_ from asP
theorem qM:(hH B q c d v++(o::t)).set B.length o'=hH B q c d v++(o'::t):=Aj
theorem tX:(hH B q c d v++(x::o::t)).set (B.length+1) o'=hH B q c d v++(x::o'::t):=aoz
end
theorem gZ(x)(l):bQ (x::l)=az x++bQ l:=by rw[bQ]
theorem aBU{l:List Ex}{k}{x}{r}(h:l.drop k=x::r):(az x).length+(bQ r).length<=(bQ l).length:=by
 have:∀(l:List Ex) (k:Nat),(bQ (l.drop k)).length<=(bQ l).length:=by
  intro l;induction l with
  |nil=>intro k;simp
  |cons y l ih=>
   intro k;cases k with
   |zero=>simp
   |succ k=>rw[List.drop_succ_cons,gZ,AS];have:=ih k;omega
 have h2:=this l k;rw[h,gZ,AS]at h2;exact h2
theorem RD(N)(hA:ez Tryz.prog 137 (qL N)):ez Tryz.prog 134 (Jg N):=by
 refine ez.RA (ps:=[]) (I:=[(137,qL N)]) trivial ⟨hA,BB⟩ aGD (λ_=>rfl) (λ_ _ _=>rfl) λq c d B v x k h1 h2 bE=>?_;obtain⟨l,on⟩:=x;dsimp only at bE|-;have hlp:l.length<=(bQ l).length:=by
  clear bE;induction l with
  |nil=>simp
  |cons y l ih=>rw[gZ,AS,jj];simp;omega
 have Ac:=bE.on;refine ao (fF @avv.eq_1 @i_.eq_1 @AT.{0} @UP @jw) (JJ ?_);refine aj l (λj (x:List yI×Em)=>⟨[(0,.ptr q 1 0 0),(1,.sl (l.map cO)),(2,.sl (on.map eD)),(7,.own B.length x.1.length 0 x.1.length),(8,.int .i64 j)],hH B q c d {v with st:=x.2}++[⟨.aV,2,x.1.map eD⟩]⟩)
  (λj r x=>x.1.length=j/\LS v.first x.2 (2*(bQ r).length)/\b6 v.p v.i v.first l on v.st=(x.1++(b6 v.p v.i v.first r on x.2).1,(b6 v.p v.i v.first r on x.2).2)) ([],v.st) trivial CT ⟨rfl,bE.big,rfl⟩ (λj e r x dj U Z E=>?_) (λj x ej E=>?_)
 .obtain⟨out,st⟩:=x;obtain⟨r1,r2,r3⟩:=E;dsimp only at r1 r2 r3;rw[b6]at r3;have Hg:=ed U;have hpd:=aBU Z;rw[gZ,AS]at r2;have nT:Wa N {v with st:=st} e on:=⟨bE.x e Hg,bE.fit e Hg,.inr (bE.small e Hg),by omega,r2.mono (by omega)⟩;have Y:=Ah N (v:={v with st:=st}) (t:=[⟨.aV,2,out.map eD⟩]) k h1 h2 e on;rw[lU nT]at Y;have hg:=Jf (p:=v.p) (node:=v.i) (first:=v.first) e on st;have gx:=ag cO U;simp only[ai e]at Y gx;generalize iR v.p v.i v.first e on st=y at*;obtain⟨⟨y1,y2⟩,fr⟩:=y;dsimp only at r3 hg Y;refine ao (fF dj gx Y @Ai @qM) (JJ ?_);exact⟨(out++[(y1,y2)],fr),(CF @IN.{0,0}),by simp[r1],hg.big (r2.mono (by omega)),by rw[r3];simp⟩
 .obtain⟨out,st⟩:=x;obtain⟨r1,r2,r3⟩:=E;dsimp only at r1 r2 r3;have r3:b6 v.p v.i v.first l on v.st=(out,st):=by rw[r3,b6,xz]
  rw[r3];have ht:(out.map eD).take l.length=out.map eD:=vc (by simp;omega);refine ao (jg ej @r1 ht @Ai @qM @dN) (JJ ?_);exact⟨_,_,rfl,rfl⟩
def FH(p:fc)(node:Nat)(first:B3)(e:Ex)(BZ:List yI)(R:Int):To:=
 if e.kind=5 then⟨2,e.op,BZ,none,0,false,[],0⟩
 else if e.kind=6 then⟨3,e.op,BZ,none,0,false,[],0⟩
 else if e.kind=7 then⟨4,0,BZ,none,0,false,[],0⟩
 else if e.kind=14 then⟨8,0,BZ,none,0,false,[],0⟩
 else if e.kind=15 then⟨9,0,BZ,none,0,false,[],0⟩
 else if e.kind=16 then⟨10,0,BZ,none,0,false,[],0⟩
 else if e.kind=13 then(if e.n=1 then⟨7,0,BZ.take (e.ar.length-1),none,jx p e.name,true,(BZ.getD (e.ar.length-1) ([],0)).1,(BZ.getD (e.ar.length-1) ([],0)).2⟩
  else⟨7,0,BZ,none,jx p e.name,false,[],0⟩)
 else if e.kind=8 then⟨5,0,BZ.drop 1,some ((dG p.en (e.ar.getD 0 default)).getD ([],⟨0,0,0⟩)).1,0,false,[],0⟩
 else if e.kind=10 then⟨5,0,BZ,some (zeroV ((rF p node e).getD ⟨0,0,0⟩)),0,false,[],0⟩
 else if e.kind=9 then⟨4,0,(cJ first R,0)::BZ,none,0,false,[],0⟩
 else if e.kind=11 then⟨1,0,BZ,none,0,false,[],0⟩
 else if e.kind=12 then⟨6,0,(e.name,0)::BZ,none,0,false,[],0⟩
 else⟨1,0,[O2 p e],none,0,false,[],0⟩
theorem aow(p)(node)(first)(e)(BZ)(R):RE (FH p node first e BZ R) [] []=y8 p node first e BZ R:=by
 unfold FH y8;have hc:((dG p.en (e.ar.getD 0 default)).map (·.1)).getD []=((dG p.en (e.ar.getD 0 default)).getD ([],⟨0,0,0⟩)).1:=by cases dG p.en (e.ar.getD 0 default)<;>rfl
 rw[hc];by_cases k5:e.kind=5
 .rw[gr k5,gr k5];rfl
 rw[ba k5,ba k5];by_cases k6:e.kind=6
 .rw[gr k6,gr k6];rfl
 rw[ba k6,ba k6];by_cases k7:e.kind=7
 .rw[gr k7,gr k7];rfl
 rw[ba k7,ba k7];by_cases J2:e.kind=14
 .rw[gr J2,gr J2];rfl
 rw[ba J2,ba J2];by_cases KM:e.kind=15
 .rw[gr KM,gr KM];rfl
 rw[ba KM,ba KM];by_cases OJ:e.kind=16
 .rw[gr OJ,gr OJ];rfl
 rw[ba OJ,ba OJ];by_cases Jc:e.kind=13
 .rw[gr Jc,gr Jc];by_cases n1:e.n=1
  .rw[gr n1,gr n1];rfl
  .rw[ba n1,ba n1];rfl
 rw[ba Jc,ba Jc];by_cases k8:e.kind=8
 .rw[gr k8,gr k8];rfl
 rw[ba k8,ba k8];by_cases FK:e.kind=10
 .rw[gr FK,gr FK];rfl
 rw[ba FK,ba FK];by_cases k9:e.kind=9
 .rw[gr k9,gr k9];rfl
 rw[ba k9,ba k9];by_cases T9:e.kind=11
 .rw[gr T9,gr T9];rfl
 rw[ba T9,ba T9];by_cases Gi:e.kind=12
 .rw[gr Gi,gr Gi];rfl
 rw[ba Gi,ba Gi];rfl
def mA(v:Ns)(e:Ex)(on:List gT):List yI×Em:=bZ v.p v.i v.first e.ar (oq v.p e on) (kz v.first e on v.st)
def K3(v:Ns)(e:Ex)(on:List gT):To:=FH v.p v.i v.first e (mA v e on).1 (kz v.first e on v.st).R
structure GF(N:Nat)(v:Ns)(e:Ex)(on:List gT):Prop where
 x:E5 v.p v.i e
 fit:ep v.p v.i e on=true
 small:(az e).length<N+1
 on:on.length+(az e).length<=1000
 big:LS v.first v.st (2*(az e).length)
theorem pY(e:Ex):(az e).length=1+(bQ e.ar).length:=by rw[jj,IS];omega
theorem aBX{l}{x}(h:x∈l):(az x).length<=(bQ l).length:=by
 induction l with
 |nil=>simp at h
 |cons y l ih=>
  rw[gZ,AS];rcases NO.1 h with rfl|h
  .omega
  .have:=ih h;omega
theorem Yp(x:To)(k):(J.agg (Ji x)).qA k=true:=by obtain⟨a,b,c,i,e,f,g,h⟩:=x;cases i<;>rfl
theorem Yq(l:List Ex):(∀e∈l.map cO,e.length=6)=True:=lU λe he=>by obtain⟨x,_,rfl⟩:=It.1 he;rw[ai];rfl
noncomputable def Yr(N:Nat):Ab->List ae->o9:=E6 Yo λv x=>(GF N v x.1 x.2/\x.1.kind=13,.agg (Ji (K3 v x.1 x.2)),(mA v x.1 x.2).2)
theorem abt(N:Nat){B t:List ae}{q c d:Nat}{v:Ns}(k:Ub B q c d)(h1:v.ia<B.length)(h2:v.oa<B.length)(e:Ex)(on:List gT):
 Yr N [.ptr q 1 0 0,.agg (cO e),.sl (on.map eD)] (hH B q c d v++t)=⟨GF N v e on/\e.kind=13,.agg (Ji (K3 v e on)),hH B q c d {v with st:=(mA v e on).2}++t⟩:=sw PY _ k h1 h2 (e,on)
theorem Jj{p}{i}{e:Ex}{on}(h:ep p i e on=true)(hk:e.kind≠1/\e.kind≠2/\e.kind≠3/\e.kind≠4/\e.kind≠8/\e.kind≠11/\e.kind≠12):∀x∈e.ar,ep p i x on=true:=by
 rw[jy,ba (by omega),ba (by omega),ba (by omega),ba (by omega),ba (by omega)]at h;split at h
 .cases h
 .rw[LU,BE]at h;exact h
theorem LV{v:Ns}{e:Ex}{on}(hk:e.kind≠8/\e.kind≠9/\e.kind≠11/\e.kind≠12):mA v e on=b6 v.p v.i v.first e.ar on v.st/\kz v.first e on v.st=v.st:=by
 have h9:kz v.first e on v.st=v.st:=by unfold kz;rw[ba hk.2.1]
 refine⟨?_,h9⟩;unfold mA;rw[h9,<-za];unfold oq;rw[ba hk.1,ba hk.2.2.1,ba hk.2.2.2]
theorem aBZ{p}{node}{first}{on}{x}:∀(l:List Ex) (st:Em),b6 p node first (l++[x]) on st=
 ((b6 p node first l on st).1++[(iR p node first x on (b6 p node first l on st).2).1],(iR p node first x on (b6 p node first l on st).2).2)
 |[],st=>rfl
 |y::l,st=>by rw[Cr,b6,aBZ l,b6];rfl
theorem GF.atoms{N}{v:Ns}{e:Ex}{on Lo:List gT}{l}{st:Em}(h:GF N v e on)(hl:∀x∈l,x∈e.ar)(hn:(bQ l).length<=(bQ e.ar).length)(hf:∀x∈l,ep v.p v.i x Lo=true)(ho:Lo.length+(bQ l).length<=1000)(hb:LS v.first st (2*(bQ l).length)):
 j_ N {v with st:=st} l Lo:=
 ⟨λx U=>h.x.sub (hl x U),hf,λx U=>by have:=kK (hl x U);have:=h.small;omega,ho,hb⟩
theorem aoA(N:Nat)(hA:ez Tryz.prog 137 (qL N)):ez Tryz.prog 135 (Yr N):=by
 refine ez.RA (ps:=[(157,Jk)]) (I:=[(134,Jg N),(137,qL N)]) ⟨px,BB⟩ ⟨RD N hA,hA,BB⟩ aGE (λ_=>rfl) (λ_ _ _=>Yp _ _) λq c d B v x k h1 h2 bE=>?_;obtain⟨e,on⟩:=x;dsimp only at bE|-;obtain⟨hM,Jc⟩:=bE;obtain⟨p5a,p5b,p5c⟩:=(dW hM.x.self.1).2.2.2.2.1 Jc;have hl8:=(dW hM.x.self.1).2.2.2.2.2.2;have pZ:=Yq e.ar;have hw:IntKind.i64.wrap (e.ar.length:Int)=e.ar.length:=qD (by omega) (by omega);have Uw:IntKind.i64.wrap ((e.ar.length:Int)-1)=(e.ar.length:Int)-1:=qD (by omega) (by omega);obtain⟨D3,VQ⟩:=LV (v:=v) (e:=e) (on:=on) ⟨by omega,by omega,by omega,by omega⟩;have Dk:=pY e;have Ac:=hM.on;have uJ:=Jj hM.fit ⟨by omega,by omega,by omega,by omega,by omega,by omega,by omega⟩;have hP:=hM.x.1.1;have Y:=Gn v.p e.name;rw[lU hP]at Y;have aJn:=λt=>Ak (a:=oN c d v) (b:=cV v) (e:=cQ v) (t:=t) k;have Hh:∀t,(hH B q c d v++t)[q]? =some (oN c d v):=aJn;rcases p5c with n0|n1
 .have hz:K3 v e on=⟨7,0,(b6 v.p v.i v.first e.ar on v.st).1,none,jx v.p e.name,false,[],0⟩:=by unfold K3 FH;rw[D3];simp[Jc,n0]
  rw[hz,D3];have hk:(e.ar.length:Int)-0=e.ar.length:=by omega
  have zb:List.take e.ar.length (e.ar.map cO)=e.ar.map cO:=vc (by simp);have e2:=λt=>nh N (v:=v) (t:=t) k h1 h2 e.ar on;simp only[lU (hM.atoms (st:=v.st) (λx U=>U) (By _) uJ (by omega) (hM.big.mono (by omega)))]at e2;refine tA (ey @ot.eq_1 @Yo.eq_1 (ai e) Jc n0 Y e2 Hh (ey @oN.eq_1 hk zb pZ hw @GI.{0} @OV.{0} @AN (tM @AT.{0} @UP @jw @Ai @A8 @qM @tX @dN))) (JJ ?_);exact⟨_,_,rfl,rfl⟩
 .have bP:e.ar≠[]:=λhh=>by rw[hh]at p5a;simp at p5a;omega
  obtain⟨l0,x,I⟩:∃l0 x,e.ar=l0++[x]:=⟨_,_,(List.dropLast_concat_getLast bP).symm⟩;have k_:e.ar.length=l0.length+1:=by rw[I];simp
  have Ho:x∈e.ar:=by rw[I];simp
  have AZ:∀y∈l0,y∈e.ar:=λy hy=>by rw[I];simp[hy]
  have PJ:(bQ e.ar).length=(bQ l0).length+(az x).length:=by
   rw[I];clear I k_ Ho AZ bP;induction l0 with
   |nil=>rw[Bz,gZ];simp[bQ]
   |cons y l ih=>rw[Cr,gZ,gZ,AS,AS,ih];omega
  have aoB:b6 v.p v.i v.first e.ar on v.st=((b6 v.p v.i v.first l0 on v.st).1++[(iR v.p v.i v.first x on (b6 v.p v.i v.first l0 on v.st).2).1],(iR v.p v.i v.first x on (b6 v.p v.i v.first l0 on v.st).2).2):=by rw[I,aBZ]
  have vT:=Gl (p:=v.p) (node:=v.i) (first:=v.first) (on:=on) l0 v.st;have hz:K3 v e on=⟨7,0,(b6 v.p v.i v.first l0 on v.st).1,none,jx v.p e.name,true,(iR v.p v.i v.first x on (b6 v.p v.i v.first l0 on v.st).2).1.1,(iR v.p v.i v.first x on (b6 v.p v.i v.first l0 on v.st).2).1.2⟩:=by
   unfold K3 FH;rw[D3,aoB];have h7:e.ar.length-1=(b6 v.p v.i v.first l0 on v.st).1.length:=by omega
   simp only[Jc,n1,h7,List.take_left,BY,List.getElem?_concat_length,S1];simp
  rw[hz,D3,aoB];have Ee:=akj (p:=v.p) (node:=v.i) (first:=v.first) l0 on v.st;have e2:=λt=>nh N (v:=v) (t:=t) k h1 h2 l0 on;simp only[lU (hM.atoms (st:=v.st) AZ (by omega) (λy hy=>uJ y (AZ y hy)) (by omega) (hM.big.mono (by omega)))]at e2;have e3:=λt=>Ah N (v:={v with st:=(b6 v.p v.i v.first l0 on v.st).2}) (t:=t) k h1 h2 x on;have hlx:=kK Ho;have zR:=hM.small;have aEi:Wa N {v with st:=(b6 v.p v.i v.first l0 on v.st).2} x on:=⟨hM.x.sub Ho,uJ x Ho,.inr (by omega),by omega,Ee.big (hM.big.mono (by omega))⟩;simp only[lU aEi]at e3;have Lp:IntKind.i64.wrap ((e.ar.length:Int)-1)=(l0.length:Int):=by rw[Uw];omega
  have zb:List.take l0.length (e.ar.map cO)=l0.map cO:=by rw[I,IN,List.take_left' (by simp)]
  have gx:(e.ar.map cO).getD l0.length []=cO x:=ag cO (by rw[I];simp);have mP:(l0.length:Int)<e.ar.length:=by omega
  have hle:(l0.length:Int)<=e.ar.length:=by omega
  have aAb:l0.length<=e.ar.length:=by omega
  simp only[ai x]at e3 gx;generalize b6 v.p v.i v.first l0 on v.st=A at*;obtain⟨A1,A2⟩:=A;dsimp only at e3 e2;generalize iR v.p v.i v.first x on A2=BQ at*;obtain⟨⟨B1,B2⟩,arJ⟩:=BQ;dsimp only at e3;refine tA (ey @ot.eq_1 @Yo.eq_1 (ai e) Jc n1 Y e2 e3 (ey Hh @oN.eq_1 gx zb mP hle pZ Lp (ey @GI.{0} @OV.{0} @AN @AT.{0} @UP @jw @Ai @A8 (cL @qM @tX @dN)))) (JJ ?_);exact⟨_,_,rfl,rfl⟩
noncomputable def Ys(N:Nat):Ab->List ae->o9:=E6 Yo λv x=>(GF N v x.1 x.2/\8<=x.1.kind/\x.1.kind<=12,.agg (Ji (K3 v x.1 x.2)),(mA v x.1 x.2).2)
theorem abu(N:Nat){B t:List ae}{q c d:Nat}{v:Ns}(k:Ub B q c d)(h1:v.ia<B.length)(h2:v.oa<B.length)(e:Ex)(on:List gT):
 Ys N [.ptr q 1 0 0,.agg (cO e),.sl (on.map eD)] (hH B q c d v++t)=⟨GF N v e on/\8<=e.kind/\e.kind<=12,.agg (Ji (K3 v e on)),hH B q c d {v with st:=(mA v e on).2}++t⟩:=sw PY _ k h1 h2 (e,on)
theorem aB1(x):(bQ [x]).length=(az x).length:=by rw[gZ];simp[bQ]
theorem ahW(l:List gT):(∀e∈l.map eD,e.length=2)=True:=lU λe he=>by obtain⟨x,_,rfl⟩:=It.1 he;rfl
theorem aAc{p}{i}{e a b:Ex}{on}(h:ep p i e on=true)(k:e.kind=8)(I:e.ar=[a,b]):ep p i b on=true:=by rw[jy,ba (by omega),ba (by omega),gr k,I]at h;simpa[oO]using h
theorem aAd{B j:List ae}{q c d}{v}{x y o}:(hH B q c d v++(x::y::(j++[o])))[B.length+(j.length+1+1)]? =some o:=by rw[IF (by rw[jw];omega),jw];simp
theorem axb{B j:List ae}{q c d}{v}{x y o o'}:(hH B q c d v++(x::y::(j++[o]))).set (B.length+(j.length+1+1)) o'=hH B q c d v++(x::y::(j++[o'])):=by rw[aab _ _ (by rw[jw];omega),jw];simp
theorem aoC{p}{i}{s}{on}:∀{l:List Ex} {a:BS} {j:Nat} {x:Ex} {c:B3},KG p i s on l a=true->l[j]? =some x->a[j]? =some c->ep p i x (on++[(s,vt p c)])=true
 |y::l,b::a,0,x,c,h,h1,h2=>by simp at h1 h2;subst h1;subst h2;rw[RF]at h;simp only[ab]at h;exact h.2.1
 |y::l,b::a,j+1,x,c,h,h1,h2=>by rw[RF]at h;simp only[ab]at h;exact aoC (l:=l) (a:=a) (j:=j) h.2.2 (by simpa using h1) (by simpa using h2)
 |[],_,_,_,_,_,h1,_=>by simp at h1
 |_::_,[],_,_,_,_,_,h2=>by simp at h2
theorem axc{p:fc}{i}{e a:Ex}{on}{m}(h:ep p i e on=true)(k:e.kind=11)(I:e.ar=[a])(ha:e.arms=[m]):∃row,dU p i e.name=some row/\on=row++[(e.name,(gH p.en m).2.1)]/\ep p i a row=true:=by
 rw[jy,ba (by omega),ba (by omega),ba (by omega),gr k,I,ha]at h;cases E:dU p i e.name with
 |none=>rw[E]at h;cases h
 |some row=>
  rw[E]at h;simp[oO]at h;exact⟨row,rfl,h.1.2,h.2⟩
theorem aoE(N:Nat)(hA:ez Tryz.prog 137 (qL N)):ez Tryz.prog 136 (Ys N):=by
 refine ez.RA (ps:=[(158,Jl),(106,A9 300),(159,_I),(104,zc),(160,RG)]) (I:=[(134,Jg N),(137,qL N),(107,Yt)]) ⟨aAL,RH 300,aIE,cZ,py,BB⟩ ⟨RD N hA,hA,ahX,BB⟩ aGF (λ_=>rfl) (λ_ _ _=>Yp _ _) λq c d B v x k h1 h2 bE=>?_;obtain⟨e,on⟩:=x;dsimp only at bE|-;obtain⟨hM,k8,Gi⟩:=bE;have Dk:=pY e;have Ac:=hM.on;have O3:=hM.big;have Cm:=hM.x.self.1;have hE:=vu hM.x.1.1;have zR:=hM.x.2.2.1;obtain⟨p1,p2,p3,p4,p5,p6,p7⟩:=dW Cm;have pZ:=Yq e.ar;have aAe:=ahW on;have Hh:∀t,(hH B q c d v++t)[q]? =some (oN c d v):=λt=>Ak (a:=oN c d v) (b:=cV v) (e:=cQ v) (t:=t) k;by_cases c8:e.kind=8
 .obtain⟨a,b,I⟩:=p2 (.inr (.inl c8));have Zu:=aAc hM.fit c8 I;have OE:a∈e.ar:=by rw[I];simp
  have vP:b∈e.ar:=by rw[I];simp
  have We:kz v.first e on v.st=v.st:=by unfold kz;rw[ba (by omega)]
  have hA8:mA v e on=(([],0)::(b6 v.p v.i v.first [b] on v.st).1,(b6 v.p v.i v.first [b] on v.st).2):=by unfold mA oq;rw[We,gr c8,I];simp only[List.drop_succ_cons,List.drop_zero,p0,DD,bZ,b6]
  have hz:K3 v e on=⟨5,0,(b6 v.p v.i v.first [b] on v.st).1,some ((dG v.p.en a).getD ([],⟨0,0,0⟩)).1,0,false,[],0⟩:=by unfold K3 FH;rw[hA8,We,I];simp[c8]
  rw[hz,hA8];have Y:=Cn v.p.en a;rw[lU (show Gq v.p.en/\eG a=true from⟨hE,Gs zR OE⟩)]at Y;have e2:=λt=>nh N (v:=v) (t:=t) k h1 h2 [b] on;have hpb:=aBX vP;have lO:=aB1 b;simp only[lU (hM.atoms (st:=v.st) (l:=[b]) (λx U=>by simp at U;rw[U];exact vP) (by omega) (λx U=>by simp at U;rw[U];exact Zu) (by omega) (O3.mono (by omega)))]at e2;have g0:(e.ar.map cO).getD 0 []=cO a:=by rw[I];rfl
  have gd:((e.ar.map cO).take 2).drop 1=[b].map cO:=by rw[I];rfl
  have l2:e.ar.length=2:=by rw[I];rfl
  simp only[ai a]at Y g0;generalize b6 v.p v.i v.first [b] on v.st=A at*;generalize (dG v.p.en a).getD ([],⟨0,0,0⟩)=C at*;generalize (dG v.p.en a).isSome=cb at*;obtain⟨A1,A2⟩:=A;obtain⟨aKD,⟨aKE,aKF,aKG⟩⟩:=C;dsimp only at e2 Y|-;generalize hbm:[b].map cO=aJo at*;refine tA (ey @fV.eq_1 @Yo.eq_1 (ai e) c8 Y e2 g0 gd (ey l2 pZ Hh @oN.eq_1 @GI.{0} @AN @AT.{0} @UP (jg @jw @Ai @A8 @qM @tX @dN))) (JJ ?_);all_goals exact⟨_,_,rfl,rfl⟩
 by_cases VW:e.kind=10
 .obtain⟨D3,VQ⟩:=LV (v:=v) (e:=e) (on:=on) ⟨by omega,by omega,by omega,by omega⟩;have uJ:=Jj hM.fit ⟨by omega,by omega,by omega,by omega,by omega,by omega,by omega⟩;have hz:K3 v e on=⟨5,0,(b6 v.p v.i v.first e.ar on v.st).1,some (zeroV ((rF v.p v.i e).getD ⟨0,0,0⟩)),0,false,[],0⟩:=by unfold K3 FH;rw[D3];simp[VW]
  rw[hz,D3];have Y:=_t hM.x;rw[GC]at Y;have e2:=λt=>nh N (v:=v) (t:=t) k h1 h2 e.ar on;simp only[lU (hM.atoms (st:=v.st) (λx U=>U) (By _) uJ (by omega) (O3.mono (by omega)))]at e2;have e3:=akl ((rF v.p v.i e).getD ⟨0,0,0⟩);simp only[ai e,VW]at Y;generalize b6 v.p v.i v.first e.ar on v.st=A at*;generalize (rF v.p v.i e).getD ⟨0,0,0⟩=T at*;generalize (rF v.p v.i e).isSome=tb at*;obtain⟨A1,A2⟩:=A;obtain⟨T1,T2,T3⟩:=T;dsimp only at e2 Y e3|-;refine ao (ey @fV.eq_1 @Yo.eq_1 (ai e) VW Y e2 e3 Hh (ey @oN.eq_1 @AN @AT.{0} @UP @jw @Ai @A8 @qM (bV @tX @dN))) (JJ ?_);all_goals exact⟨_,_,rfl,rfl⟩
 by_cases c9:e.kind=9
 .have uJ:=Jj hM.fit ⟨by omega,by omega,by omega,by omega,by omega,by omega,by omega⟩;have hA9:mA v e on=b6 v.p v.i v.first e.ar on (kz v.first e on v.st):=by unfold mA oq;rw[ba (by omega),ba (by omega),ba (by omega),za]
  have hz:K3 v e on=⟨4,0,(cJ v.first (kz v.first e on v.st).R,0)::(b6 v.p v.i v.first e.ar on (kz v.first e on v.st)).1,none,0,false,[],0⟩:=by unfold K3 FH;rw[hA9];simp[c9]
  rw[hz,hA9];have Y:=λt=>aBk (v:=v) (t:=t) k h1 h2 ⟨5,0,[([],0)],some [1],0,false,[],0⟩ none ⟨2,0,0⟩ on;simp only[lU (O3.mono (show 1<=2*(az e).length by omega))]at Y;have h9:lT v.first (RE ⟨5,0,[([],0)],some [1],0,false,[],0⟩ [] []) ((none:Option BS).getD []) ⟨2,0,0⟩ on v.st=(cJ v.first (kz v.first e on v.st).R,kz v.first e on v.st):=by unfold kz;rw[gr c9];rfl
  rw[h9]at Y;have Ee:=Yn v.first e on v.st;generalize kz v.first e on v.st=s9 at*;have e2:=λt=>nh N (v:={v with st:=s9}) (t:=t) k h1 h2 e.ar on;simp only[lU (hM.atoms (st:=s9) (λx U=>U) (By _) uJ (by omega) (Ee.big (O3.mono (by omega))))]at e2;simp only[Ji,Co,Dq,cC,eD,dE,p0,DD]at Y;have vT:=Gl (p:=v.p) (node:=v.i) (first:=v.first) (on:=on) e.ar s9;generalize cJ v.first s9.R=fn at*;generalize b6 v.p v.i v.first e.ar on s9=A at*;obtain⟨A1,A2⟩:=A;dsimp only at e2 Y vT|-;have hrA:=ahW A1;have dh:List.take (1+A1.length) ([J.str fn,J.int .i64 0]::A1.map eD)=[J.str fn,J.int .i64 0]::A1.map eD:=vc (by simp;omega);refine ao (ey @fV.eq_1 @Yo.eq_1 (ai e) c9 Y e2 hrA dh (ey @AN @AT.{0} @UP @jw @Ai @A8 @qM @tX @dN)) (JJ ?_);all_goals exact⟨_,_,rfl,rfl⟩
 by_cases UU:e.kind=11
 .obtain⟨a,I⟩:=p1 (.inr (.inr UU));obtain⟨m,hm⟩:=_p Cm UU;obtain⟨row,gg,Dj,WU⟩:=axc hM.fit UU I hm;have OE:a∈e.ar:=by rw[I];simp
  have WZ:=aBX OE;have lO:=aB1 a;have We:kz v.first e on v.st=v.st:=by unfold kz;rw[ba (by omega)]
  have vw:on.dropLast=row:=by rw[Dj,List.dropLast_concat]
  have aAg:mA v e on=b6 v.p v.i v.first [a] row v.st:=by unfold mA oq;rw[We,ba (by omega),gr UU,I,vw,za]
  have hz:K3 v e on=⟨1,0,(b6 v.p v.i v.first [a] row v.st).1,none,0,false,[],0⟩:=by unfold K3 FH;rw[aAg];simp[UU]
  rw[hz,aAg];have Mt:on.length=row.length+1:=by rw[Dj];simp
  have e2:=λt=>nh N (v:=v) (t:=t) k h1 h2 [a] row;simp only[lU (hM.atoms (st:=v.st) (l:=[a]) (λx U=>by simp at U;rw[U];exact OE) (by omega) (λx U=>by simp at U;rw[U];exact WU) (by omega) (O3.mono (by omega)))]at e2;have gs:e.ar.map cO=[a].map cO:=by rw[I]
  have gt:(on.map eD).take row.length=row.map eD:=by rw[Dj,IN,List.take_left' (by simp)]
  have hw:IntKind.i64.wrap ((on.length:Int)-1)=(row.length:Int):=by rw[qD (by omega) (by omega)];omega
  have hle:(row.length:Int)<=on.length:=by omega
  have aAb:row.length<=on.length:=by omega
  generalize b6 v.p v.i v.first [a] row v.st=A at*;obtain⟨A1,A2⟩:=A;dsimp only at e2|-;generalize hbm:[a].map cO=aJo at*;refine tA (ey @fV.eq_1 @Yo.eq_1 (ai e) UU e2 gs gt hw (ey hle aAe @GI.{0} @OV.{0} @AN @AT.{0} @UP @jw (cL @Ai @qM @dN))) (JJ ?_);all_goals exact⟨_,_,rfl,rfl⟩
 have O4:e.kind=12:=by omega
 obtain⟨p4a,p4b,p4c⟩:=p4 O4;have hmg:KG v.p v.i e.name on e.ar e.arms=true:=by have:=hM.fit;rw[jy,ba (by omega),ba (by omega),ba (by omega),ba (by omega),gr O4,Bool.and_assoc,Yu p4a.symm,ab]at this;exact this.2
 have We:kz v.first e on v.st=v.st:=by unfold kz;rw[ba (by omega)]
 have aAh:mA v e on=bZ v.p v.i v.first e.ar (e.arms.map λc=>some (on++[(e.name,vt v.p c)])) v.st:=by unfold mA oq;rw[We,ba (by omega),ba (by omega),gr O4]
 have hz:K3 v e on=⟨6,0,(e.name,0)::(bZ v.p v.i v.first e.ar (e.arms.map λc=>some (on++[(e.name,vt v.p c)])) v.st).1,none,0,false,[],0⟩:=by unfold K3 FH;rw[aAh];simp[O4]
 rw[hz,aAh];have Y:=λc=>oP v.p.en c;simp only[lU hE]at Y;generalize aAi:(e.arms.map λc=>some (on++[(e.name,vt v.p c)]))=zS at*;have ED:zS.length=e.ar.length:=by rw[<-aAi];simp;omega
 refine ao (tM @fV.eq_1 @Yo.eq_1 (ai e) O4 @AN @AT.{0} @UP @jw) (JJ ?_);refine aj e.ar (λj (x:List yI×Em×List ae)=>⟨[(0,.ptr q 1 0 0),(2,.sl (on.map eD)),(4,.ref (cO e)),(6,.ptr B.length 1 0 0),(13,.own (B.length+1) x.1.length 0 x.1.length),(14,.int .i64 j)],hH B q c d {v with st:=x.2.1}++(⟨.loc,10,[[.int .i64 0,.nil,.int .i64 0,.nil,.nil,.int .i64 0,.bool false,.str [],.int .i64 0,.nil]]⟩::⟨.aV,2,x.1.map eD⟩::x.2.2)⟩)
  (λj r x=>x.1.length=j+1/\LS v.first x.2.1 (2*(bQ r).length)/\(((e.name,0)::(bZ v.p v.i v.first e.ar zS v.st).1,(bZ v.p v.i v.first e.ar zS v.st).2):List yI×Em)=(x.1++(bZ v.p v.i v.first r (zS.drop j) x.2.1).1,(bZ v.p v.i v.first r (zS.drop j) x.2.1).2)) ([(e.name,0)],v.st,[]) trivial (CF (bV (ai e) O4)) ⟨rfl,O3.mono (by omega),rfl⟩ (λj x r y dj U Z E=>?_) (λj y ej E=>?_)
 .obtain⟨out,st,jk⟩:=y;obtain⟨r1,r2,r3⟩:=E;dsimp only at r1 r2 r3;have dja:j<e.arms.length:=by omega
  obtain⟨cc,q1,q2⟩:=eE e.arms dja;have xl:zS.drop j=some (on++[(e.name,vt v.p cc)])::zS.drop (j+1):=by rw[<-aAi,<-List.map_drop,<-List.map_drop,q2];rfl
  rw[xl,bZ]at r3;have UT:=ed U;have hpd:=aBU Z;rw[gZ,AS]at r2;have hfx:=aoC hmg U q1;have hlx:=kK UT;have aI3:=hM.small;have nT:Wa N {v with st:=st} x (on++[(e.name,vt v.p cc)]):=⟨hM.x.sub UT,hfx,.inr (by omega),by simp;omega,r2.mono (by omega)⟩;have e2:=λt=>Ah N (v:={v with st:=st}) (t:=t) k h1 h2 x (on++[(e.name,vt v.p cc)]);simp only[lU nT]at e2;have hg:=Jf (p:=v.p) (node:=v.i) (first:=v.first) x (on++[(e.name,vt v.p cc)]) st;have gx:=ag cO U;have ga:=fN q1;have e1c:=Y cc;have hav:vt v.p cc=(gH v.p.en cc).2.1:=rfl;have e3:=LW on e.name (vt v.p cc);rw[lU (show on.length<=1000000 by omega)]at e3;rw[<-hav]at e1c;simp only[ai x]at e2 gx;generalize vt v.p cc=aJp at*;generalize (gH v.p.en cc).1=at1 at*;generalize (gH v.p.en cc).2.2=Yv at*;generalize on++[(e.name,aJp)]=_y at*;generalize iR v.p v.i v.first x _y st=aJq at*;obtain⟨⟨y1,y2⟩,fr⟩:=aJq;obtain⟨w1,w2,w3⟩:=at1;dsimp only at r3 hg e2;have gN2:∀t,(hH B q c d {v with st:=st}++t)[q]? =some (oN c d {v with st:=st}):=λt=>Ak (a:=oN c d {v with st:=st}) (b:=cV {v with st:=st}) (e:=cQ {v with st:=st}) (t:=t) k;have gi:(j:Int)<e.arms.length:=by omega
  refine ao (ey @ak (ai e) O4 dj gi gx ga gN2 (ey e1c e2 e3 @aAd @axb @oN.eq_1 @AN @AT.{0} (fj @UP @jw @A8 @tX))) (JJ ?_);exact⟨(out++[(y1,y2)],fr,jk++[⟨.loc,3,[[.int .i64 w1,.int .i64 w2,.int .i64 w3]]⟩]),(CF @IN.{0,0}),by simp[r1],hg.big (r2.mono (by omega)),by rw[r3];simp⟩
 .obtain⟨out,st,jk⟩:=y;obtain⟨r1,r2,r3⟩:=E;dsimp only at r1 r2 r3;rw[bZ,xz,Ce]at r3;obtain⟨ho,PK⟩:=r3;rw[ho,PK];have dh:List.take (e.ar.length+1) (out.map eD)=out.map eD:=vc (by simp;omega);refine ao (ey (ai e) O4 ej @r1 dh @Ai @A8 @qM (bV @tX @dN)) (JJ ?_);exact⟨_,_,rfl,rfl⟩
noncomputable def RK(N:Nat):Ab->List ae->o9:=E6 Yo λv x=>(GF N v x.1 x.2,.agg (Ji (K3 v x.1 x.2)),(mA v x.1 x.2).2)
theorem aJr(N:Nat){B t:List ae}{q c d:Nat}{v:Ns}(k:Ub B q c d)(h1:v.ia<B.length)(h2:v.oa<B.length)(e:Ex)(on:List gT):
 RK N [.ptr q 1 0 0,.agg (cO e),.sl (on.map eD)] (hH B q c d v++t)=⟨GF N v e on,.agg (Ji (K3 v e on)),hH B q c d {v with st:=(mA v e on).2}++t⟩:=sw PY _ k h1 h2 (e,on)
theorem aoH{e:Ex}(h:fi e=true)(k:1<=e.kind/\e.kind<=4):e.ar=[]:=by
 have hl:=(oQ h).2.2.2;have:(qN e).2=0:=by unfold qN;rw[ba (by omega),ba (by omega),ba (by omega),ba (by omega),ba (by omega),ba (by omega)]
 rw[this]at hl;exact List.length_eq_zero_iff.1 (by omega)
theorem Yx{p}{i}{e:Ex}(h:p8 p i e=true):e.kind≠17:=by intro hk;unfold p8 at h;simp[hk]at h
theorem akm(N:Nat)(hA:ez Tryz.prog 137 (qL N)):ez Tryz.prog 105 (RK N):=by
 refine ez.RA (ps:=[]) (I:=[(134,Jg N),(135,Yr N),(136,Ys N),(137,qL N)]) trivial ⟨RD N hA,aoA N hA,aoE N hA,hA,BB⟩ aF3 (λ_=>rfl) (λ_ _ _=>Yp _ _) λq c d B v x k h1 h2 bE=>?_;obtain⟨e,on⟩:=x;dsimp only at bE|-;have hM:=bE;have Dk:=pY e;have Ac:=hM.on;have O3:=hM.big;have Cm:=hM.x.self.1;have h17:=Yx hM.x.self.2;have hkr:=oQ Cm;have pZ:=Yq e.ar;have Hh:∀t,(hH B q c d v++t)[q]? =some (oN c d v):=λt=>Ak (a:=oN c d v) (b:=cV v) (e:=cQ v) (t:=t) k;by_cases cg:e.kind=5\/e.kind=6\/e.kind=7\/e.kind=14\/e.kind=15\/e.kind=16
 .obtain⟨D3,VQ⟩:=LV (v:=v) (e:=e) (on:=on) ⟨by omega,by omega,by omega,by omega⟩;have uJ:=Jj hM.fit ⟨by omega,by omega,by omega,by omega,by omega,by omega,by omega⟩;have e2:=λt=>nh N (v:=v) (t:=t) k h1 h2 e.ar on;simp only[lU (hM.atoms (st:=v.st) (λx U=>U) (By _) uJ (by omega) (O3.mono (by omega)))]at e2;unfold K3;rw[D3];generalize b6 v.p v.i v.first e.ar on v.st=A at*;obtain⟨A1,A2⟩:=A;dsimp only at e2|-;rcases cg with cg|cg|cg|cg|cg|cg;all_goals(refine ao (ey @hU.eq_1 @Yo.eq_1 (ai e) cg e2 @AT.{0} @UP @jw (cL @Ai @qM @dN)) (JJ ?_))
  all_goals exact⟨by simp[FH,cg,Tp],_,_,rfl,rfl⟩
 have n5:¬e.kind=5:=by omega
 have n6:¬e.kind=6:=by omega
 have n7:¬e.kind=7:=by omega
 have n14:¬e.kind=14:=by omega
 have n15:¬e.kind=15:=by omega
 have n16:¬e.kind=16:=by omega
 by_cases Yy:e.kind=13
 .have e2:=λt=>abt N (v:=v) (t:=t) k h1 h2 e on;simp only[lU (show GF N v e on/\e.kind=13 from⟨hM,Yy⟩)]at e2;simp only[ai e,Yy]at e2;generalize mA v e on=A at*;generalize K3 v e on=An at*;obtain⟨A1,A2⟩:=A;obtain⟨R1,R2,R3,R4,aB5,aB6,aB8,aCd⟩:=An;dsimp only at e2|-;refine ao (ey @hU.eq_1 @Yo.eq_1 (ai e) Yy e2 @AT.{0} @UP @jw (cL @Ai @qM @dN)) (JJ ?_);all_goals first|exact⟨_,_,rfl,rfl⟩|exact⟨by cases R4<;>rfl,_,_,rfl,rfl⟩
 by_cases cf:8<=e.kind/\e.kind<=12
 .have e2:=λt=>abu N (v:=v) (t:=t) k h1 h2 e on;simp only[lU (show GF N v e on/\8<=e.kind/\e.kind<=12 from⟨hM,cf.1,cf.2⟩)]at e2;simp only[ai e]at e2;generalize mA v e on=A at*;generalize K3 v e on=An at*;obtain⟨A1,A2⟩:=A;obtain⟨R1,R2,R3,R4,aB5,aB6,aB8,aCd⟩:=An;dsimp only at e2|-;obtain cf|cf|cf|cf|cf:e.kind=8\/e.kind=9\/e.kind=10\/e.kind=11\/e.kind=12:=by omega
  all_goals simp only[cf]at e2
  all_goals(refine ao (ey @hU.eq_1 @Yo.eq_1 (ai e) cf e2 @AT.{0} @UP @jw (cL @Ai @qM @dN)) (JJ ?_))
  all_goals first|exact⟨_,_,rfl,rfl⟩|exact⟨by cases R4<;>rfl,_,_,rfl,rfl⟩
 have F7:1<=e.kind/\e.kind<=4:=by omega
 have RJ:=aoH Cm F7;have hA0:mA v e on=([],v.st):=by unfold mA kz;rw[ba (by omega),RJ,bZ]
 have hz:K3 v e on=⟨1,0,[O2 v.p e],none,0,false,[],0⟩:=by unfold K3 FH;rw[ba n5,ba n6,ba n7,ba n14,ba n15,ba n16,ba Yy,ba (by omega),ba (by omega),ba (by omega),ba (by omega),ba (by omega)]
 rw[hz,hA0];have e2:=λt=>Ah N (v:=v) (t:=t) k h1 h2 e on;simp only[lU (show Wa N v e on from⟨hM.x,hM.fit,.inl F7,Ac,O3⟩)]at e2;rw[tu,gr F7]at e2;simp only[ai e]at e2;generalize O2 v.p e=BQ at*;obtain⟨B1,B2⟩:=BQ;dsimp only at e2|-;have aKH:¬e.kind=8:=by omega
 have aKI:¬e.kind=9:=by omega
 have m10:¬e.kind=10:=by omega
 have m11:¬e.kind=11:=by omega
 have m12:¬e.kind=12:=by omega
 refine ao (ey @hU.eq_1 @Yo.eq_1 (ai e) e2 @AT.{0} @UP @jw @Ai (bV @qM @dN)) (JJ (λhn hn hn hn hn hn hn hn hn hn hn hn=>?_));all_goals exact⟨_,_,rfl,rfl⟩
theorem aoI(v:Ns)(e)(on):Gr v.st (mA v e on).2 (2*(az e).length-1):=by have h1:=Yn v.first e on v.st;have h2:=Cj (p:=v.p) (node:=v.i) (first:=v.first) e.ar (oq v.p e on) (kz v.first e on v.st) λx _=>Jf x;exact(h1.trans h2).mono (by have:=pY e;omega)
theorem aoJ{f}{q}{nm}{t t'}{on}{st:Em}(h:nm≠[]):lT f q nm t on st=lT f q nm t' on st:=by unfold lT;rw[ba h,ba h]
theorem akn(v:Ns)(e)(nm)(on):fS v.p v.i v.first e nm on v.st=lT v.first (RE (K3 v e on) [] []) nm ((rF v.p v.i e).getD ⟨0,0,0⟩) on (mA v e on).2:=by unfold fS ng K3;rw[aow];rfl
abbrev ApA:=Ex×Option BS×List gT
def RL(x:ApA):Ab:=[.agg (cO x.1),OI x.2.1,.sl (x.2.2.map eD)]
theorem afx:tP RL:=λx y h=>by obtain⟨a,b,c⟩:=x;obtain⟨a',b',c'⟩:=y;injection h with h1 h;injection h with h2 h;injection h with h3 h;injection h1 with h1;injection h3 with h3;have Y:a=a':=Ag _ _ h1;have e2:b=b':=ahY _ _ h2;have e3:c=c':=map_inj qJ _ _ h3;rw[Y,e2,e3]
noncomputable def Je(N:Nat):Ab->List ae->o9:=E6 RL λv x=>(GF N v x.1 x.2.2,.str (fS v.p v.i v.first x.1 (x.2.1.getD []) x.2.2 v.st).1,(fS v.p v.i v.first x.1 (x.2.1.getD []) x.2.2 v.st).2)
theorem aCe(N:Nat){B t:List ae}{q c d:Nat}{v:Ns}(k:Ub B q c d)(h1:v.ia<B.length)(h2:v.oa<B.length)(e:Ex)(nm:Option BS)(on:List gT):
 Je N [.ptr q 1 0 0,.agg (cO e),OI nm,.sl (on.map eD)] (hH B q c d v++t)=⟨GF N v e on,.str (fS v.p v.i v.first e (nm.getD []) on v.st).1,hH B q c d {v with st:=(fS v.p v.i v.first e (nm.getD []) on v.st).2}++t⟩:=sw afx _ k h1 h2 (e,nm,on)
theorem abo(N:Nat)(hA:ez Tryz.prog 137 (qL N)):ez Tryz.prog 76 (Je N):=by
 refine ez.RA (ps:=[(106,A9 300)]) (I:=[(105,RK N),(107,Yt)]) ⟨RH 300,BB⟩ ⟨akm N hA,ahX,BB⟩ aFb (λ_=>rfl) (λ_ _ _=>rfl) λq c d B v x k h1 h2 bE=>?_;obtain⟨e,nm,on⟩:=x;dsimp only at bE|-;have hM:=bE;have Y:=λt=>aJr N (v:=v) (t:=t) k h1 h2 e on;simp only[lU hM]at Y;have e3:=_t hM.x;rw[GC]at e3;rw[akn];have Ee:=aoI v e on;have O3:=hM.big;have Dk:=pY e;generalize mA v e on=A at*;generalize K3 v e on=An at*;obtain⟨A1,A2⟩:=A;dsimp only at Y Ee|-;have e2:=λt nm ty=>aBk (v:={v with st:=A2}) (t:=t) k h1 h2 An nm ty on;simp only[lU (Ee.big (m:=1) (O3.mono (by omega)))]at e2;have Hh:∀t,(hH B q c d {v with st:=A2}++t)[q]? =some (oN c d {v with st:=A2}):=λt=>Ak (a:=oN c d {v with st:=A2}) (b:=cV {v with st:=A2}) (e:=cQ {v with st:=A2}) (t:=t) k;simp only[ai e]at Y e3;generalize (rF v.p v.i e).getD ⟨0,0,0⟩=T at*;generalize (rF v.p v.i e).isSome=tb at*;obtain⟨R1,R2,R3,R4,aB5,aB6,aB8,aCd⟩:=An;obtain⟨T1,T2,T3⟩:=T;rcases nm with _|nl
 .have OK:=λt=>e2 t none ⟨T1,T2,T3⟩;simp only[Dq]at OK;refine ao (ey @jV.eq_1 @RL.eq_1 (ai e) @Dq Y OK e3 Hh (ey @oN.eq_1 @AN @AT.{0} @UP @jw @Ai @A8 @qM (bV @tX @dN))) (JJ ?_);all_goals first
   |exact⟨_,_,rfl,rfl⟩
   |exact⟨by cases R4<;>rfl,_,_,rfl,rfl⟩
 .by_cases hn:nl=[]
  .subst hn;have hz:((([]:BS).length:Nat):Int)=0:=rfl;have OK:=λt=>e2 t (some []) ⟨T1,T2,T3⟩;simp only[tz]at OK;refine ao (ey @jV.eq_1 @ak @RL.eq_1 (ai e) @tz Y OK e3 (ey Hh @oN.eq_1 @AN @AT.{0} @UP @jw @Ai @A8 (cL @qM @tX @dN))) (JJ ?_);all_goals first
    |exact⟨_,_,rfl,rfl⟩
    |exact⟨by cases R4<;>rfl,_,_,rfl,rfl⟩
  .have uK:=OT.2 hn;have hz:¬(nl.length:Int)=0:=by omega
   have OK:=λt=>e2 t (some nl) ⟨0,0,0⟩;simp only[tz]at OK;have iq:=λ(q:Pl)=>aoJ (f:=v.first) (q:=q) (nm:=(some nl).getD []) (t:=⟨T1,T2,T3⟩) (t':=⟨0,0,0⟩) (on:=on) (st:=A2) hn;rw[iq];clear e2 iq;rcases R4 with _|aKJ;all_goals simp only[Ji,Jm,Co]at Y OK
   all_goals(refine ao (ey @jV.eq_1 @ak @RL.eq_1 (ai e) @tz Y OK @AT.{0} (rO @UP @jw @Ai @A8 @qM @tX @dN)) (JJ (λhn=>?_)))
   all_goals first
    |exact⟨_,_,rfl,rfl⟩
theorem aoK:ez Tryz.prog 137 (qL 0):=by
 refine ez.RA (ps:=[(104,zc)]) (I:=[]) ⟨cZ,BB⟩ trivial ayz (λ_=>rfl) (λ_ _ _=>rfl) λq c d B v x k h1 h2 bE=>?_;obtain⟨e,on⟩:=x;dsimp only at bE|-;have hM:=bE;have hE:=vu hM.x.1.1;have Cm:=hM.x.self.1;have h17:=Yx hM.x.self.2;have hkr:=oQ Cm;have Hh:∀t,(hH B q c d v++t)[q]? =some (oN c d v):=λt=>Ak (a:=oN c d v) (b:=cV v) (e:=cQ v) (t:=t) k;by_cases cl:1<=e.kind/\e.kind<=4
 .rw[tu,gr cl];have Y:=oP v.p.en e.name;rw[lU hE]at Y;obtain c1|c1|c1|c1:e.kind=1\/e.kind=2\/e.kind=3\/e.kind=4:=by omega
  all_goals(refine ao (ey @kA.eq_1 @Yo.eq_1 (ai e) c1 Y Hh @oN.eq_1 @AN (tM @AT.{0} @UP @jw @Ai @A8 @qM @tX @dN)) (JJ ?_))
  all_goals exact⟨by simp[O2,c1,vt],_,_,rfl,rfl⟩
 rcases hM.small with I|I
 .exact absurd I cl
 .omega
theorem aoL(N:Nat)(hA:ez Tryz.prog 137 (qL N)):ez Tryz.prog 137 (qL (N+1)):=by
 refine ez.RA (ps:=[(104,zc)]) (I:=[(76,Je N)]) ⟨cZ,BB⟩ ⟨abo N hA,BB⟩ ayz (λ_=>rfl) (λ_ _ _=>rfl) λq c d B v x k h1 h2 bE=>?_;obtain⟨e,on⟩:=x;dsimp only at bE|-;have hM:=bE;have hE:=vu hM.x.1.1;have Cm:=hM.x.self.1;have h17:=Yx hM.x.self.2;have hkr:=oQ Cm;have Hh:∀t,(hH B q c d v++t)[q]? =some (oN c d v):=λt=>Ak (a:=oN c d v) (b:=cV v) (e:=cQ v) (t:=t) k;by_cases cl:1<=e.kind/\e.kind<=4
 .rw[tu,gr cl];have Y:=oP v.p.en e.name;rw[lU hE]at Y;obtain c1|c1|c1|c1:e.kind=1\/e.kind=2\/e.kind=3\/e.kind=4:=by omega
  all_goals(refine ao (ey @kA.eq_1 @Yo.eq_1 (ai e) c1 Y Hh @oN.eq_1 @AN (tM @AT.{0} @UP @jw @Ai @A8 @qM @tX @dN)) (JJ ?_))
  all_goals exact⟨by simp[O2,c1,vt],_,_,rfl,rfl⟩
 rw[tu,ba cl];have zR:(az e).length<N+1:=by
  rcases hM.small with I|I
  .exact absurd I cl
  .exact I
 have e2:=λt=>aCe N (v:=v) (t:=t) k h1 h2 e none on;simp only[lU (show GF N v e on from⟨hM.x,hM.fit,zR,hM.on,hM.big⟩)]at e2;simp only[ai e,Dq]at e2;have WS:(none:Option BS).getD []=[]:=rfl;rw[WS]at e2;generalize fS v.p v.i v.first e [] on v.st=BQ at*;obtain⟨B1,B2⟩:=BQ;dsimp only at e2|-;have m1:¬e.kind=1:=by omega
 have m2:¬e.kind=2:=by omega
 have m3:¬e.kind=3:=by omega
 have m4:¬e.kind=4:=by omega
 refine ao (ey @kA.eq_1 @Yo.eq_1 (ai e) e2 @AT.{0} @UP @jw @Ai (bV @qM @dN)) (JJ (λhn hn hn hn=>?_));all_goals exact⟨_,_,rfl,rfl⟩
theorem abp:∀N,ez Tryz.prog 137 (qL N)
 |0=>aoK
 |N+1=>aoL N (abp N)
end Go.Proofs.YtldnkkkooabaeaaGreat

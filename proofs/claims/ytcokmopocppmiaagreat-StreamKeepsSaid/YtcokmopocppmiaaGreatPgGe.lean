/- Programs: taken apart: how much is emitted; atoms of parts: the walk (21). -/
import Derived.Test.YtcokmopocppmiaaGreatPgG
import Derived.Test.YtcokmopocppmiaaGreatPgFc
set_option linter.all false
set_option maxRecDepth 20000
namespace Go.Proofs.YtcokmopocppmiaaGreat
open Go.Nk
structure Gr(a b:Em)(n:Nat):Prop where
 lo:a.fr<=b.fr
 fr:b.fr<=a.fr+n
 vs:b.vs.length<=a.vs.length+n
 qs:b.qs.length<=a.qs.length+n
theorem Gr.refl(a:Em):Gr a a 0:=⟨Int.le_refl _,by simp,by simp,by simp⟩
theorem Gr.trans{a b c:Em}{n m:Nat}(h:Gr a b n)(k:Gr b c m):Gr a c (n+m):=by obtain⟨h1,h2,h3,h4⟩:=h;obtain⟨k1,k2,k3,k4⟩:=k;exact⟨by omega,by omega,by omega,by omega⟩
theorem Gr.mono{a b:Em}{n m:Nat}(h:Gr a b n)(k:n<=m):Gr a b m:=by obtain⟨h1,h2,h3,h4⟩:=h;exact⟨by omega,by omega,by omega,by omega⟩
theorem Gr.big{a b:Em}{n m:Nat}{f:List UInt8}(h:Gr a b n)(k:JD f a (n+m)):JD f b m:=by obtain⟨h1,h2,h3,h4⟩:=h;obtain⟨k1,k2,k3,k4,k5⟩:=k;exact⟨k1,by omega,by omega,by omega,by omega⟩
theorem JD.mono{a:Em}{n m:Nat}{f:List UInt8}(k:JD f a n)(h:m<=n):JD f a m:=by obtain⟨k1,k2,k3,k4,k5⟩:=k;exact⟨k1,by omega,by omega,by omega,by omega⟩
theorem aef(first:List UInt8)(q:Pl)(nm:List (List UInt8))(t:Ty)(on:List dY)(st:Em):Gr st (kC first q nm t on st).2 1:=by
 unfold kC;split
 ·exact⟨by simp;omega,by simp,by simp,by simp⟩
 ·exact⟨by simp,by simp;omega,by simp,by simp⟩
theorem U0(first:List UInt8)(e:Ex)(on:List dY)(st:Em):Gr st (jA first e on st) 1:=by
 unfold jA;split
 ·exact aef ..
 ·exact(Gr.refl st).mono (by omega)
theorem AE{p:cY}{node:Nat}{first:List UInt8}:∀(l:List Ex) (w6:List (Option (List dY))) (st:Em),(∀x∈l,∀on st,Gr st (gU p node first x on st).2 (2*(ax x).length))->Gr st (bM p node first l w6 st).2 (2*(bC l).length)
 |[],w6,st,_=>by rw[bM];exact(Gr.refl st).mono (by omega)
 |x::l,[],st,_=>by rw[bM];exact(Gr.refl st).mono (by omega)
 |x::l,none::r,st,h=>by rw[bM,bC,List.length_append];exact(AE l r st λy hy=>h y (List.mem_cons_of_mem _ hy)).mono (by omega)
 |x::l,some on::r,st,h=>by rw[bM,bC,List.length_append];have h1:=h x (List.mem_cons_self ..) on st;have h2:=AE l r (gU p node first x on st).2 λy hy=>h y (List.mem_cons_of_mem _ hy);exact(h1.trans h2).mono (by omega)
theorem SC{p:cY}{node:Nat}{first:List UInt8}(e:Ex)(h:∀x∈e.ar,∀on st,Gr st (gU p node first x on st).2 (2*(ax x).length))(nm:List (List UInt8))(on:List dY)(st:Em):Gr st (eX p node first e nm on st).2 (2*(ax e).length):=by
 unfold eX lT;have h1:=U0 first e on st
 have h2:=AE (p:=p) (node:=node) (first:=first) e.ar (mO p e on) (jA first e on st) h;have h3:=aef first (xy p node first e (bM p node first e.ar (mO p e on) (jA first e on st)).1 (jA first e on st).fr) nm ((oV p node e).getD ⟨0,0,0⟩) on (bM p node first e.ar (mO p e on) (jA first e on st)).2
 refine((h1.trans h2).trans h3).mono ?_;rw[iA,List.length_cons];omega
theorem GX{p:cY}{node:Nat}{first:List UInt8}(e:Ex):∀(on:List dY) (st:Em),Gr st (gU p node first e on st).2 (2*(ax e).length):=by
 induction e using Ex.ind with
 |h e ih=>
  intro on st;rw[qW];split
  ·exact(Gr.refl st).mono (by omega)
  ·exact SC e ih [] on st
theorem NG{p:cY}{node:Nat}{first:List UInt8}(e:Ex)(nm:List (List UInt8))(on:List dY)(st:Em):Gr st (eX p node first e nm on st).2 (2*(ax e).length):=
 SC e (λx _=>GX x) nm on st
def bN(p:cY)(node:Nat)(first:List UInt8):List Ex->List dY->Em->List xx×Em
 |[],_,st=>([],st)
 |x::l,on,st=>((gU p node first x on st).1::(bN p node first l on (gU p node first x on st).2).1,(bN p node first l on (gU p node first x on st).2).2)
theorem xB(p:cY)(node:Nat)(first:List UInt8)(on:List dY):∀(l:List Ex) (st:Em),bM p node first l (l.map λ_=>some on) st=bN p node first l on st
 |[],st=>by rw[List.map_nil,bM];rfl
 |x::l,st=>by rw[List.map_cons,bM,xB p node first on l];rfl
theorem af6{p:cY}{node:Nat}{first:List UInt8}(l:List Ex)(on:List dY)(st:Em):Gr st (bN p node first l on st).2 (2*(bC l).length):=by rw[<-xB];exact AE l _ st λx _=>GX x
theorem Ek{p:cY}{node:Nat}{first:List UInt8}{on:List dY}:∀(l:List Ex) (st:Em),(bN p node first l on st).1.length=l.length
 |[],_=>rfl
 |x::l,st=>by rw[bN];simp[Ek l]
structure okN(N:Nat)(v:Ns)(e:Ex)(on:List dY):Prop where
 x:yx v.p v.i e
 fit:c0 v.p v.i e on=true
 small:(1<=e.kind/\e.kind<=4)\/(ax e).length<N
 on:on.length+(ax e).length<=1000
 big:JD v.first v.st (2*(ax e).length)
def U1(x:Ex×List dY):List DV:=[.agg (cA x.1),.sl (x.2.map eD)]
theorem M8:GK U1:=λx y h=>by obtain⟨a,b⟩:=x;obtain⟨a',b'⟩:=y;injection h with h1 h;injection h with h2 h;injection h1 with h1;injection h2 with h2;have e1:a=a':=yz _ _ h1;have e2:b=b':=map_inj mu _ _ h2;rw[e1,e2]
def aLo(x:List Ex×List dY):List DV:=[.sl (x.1.map cA),.sl (x.2.map eD)]
theorem anQ:GK aLo:=λx y h=>by obtain⟨a,b⟩:=x;obtain⟨a',b'⟩:=y;injection h with h1 h;injection h with h2 h;injection h1 with h1;injection h2 with h2;have e1:a=a':=map_inj yz _ _ h1;have e2:b=b':=map_inj mu _ _ h2;rw[e1,e2]
noncomputable def pj(N:Nat):List DV->List ak->sj:=Dn U1 λv x=>(okN N v x.1 x.2,.agg (eD (gU v.p v.i v.first x.1 x.2 v.st).1),(gU v.p v.i v.first x.1 x.2 v.st).2)
theorem yA(N:Nat){hp t:List ak}{q c d:Nat}{v:Ns}(k:Re hp q c d)(h1:v.ia<hp.length)(h2:v.oa<hp.length)(e:Ex)(on:List dY):
 pj N [.ptr q 1 0 0,.agg (cA e),.sl (on.map eD)] (fY hp q c d v++t)=⟨okN N v e on,.agg (eD (gU v.p v.i v.first e on v.st).1),fY hp q c d {v with st:=(gU v.p v.i v.first e on v.st).2}++t⟩:=qb M8 _ k h1 h2 (e,on)
structure ars(N:Nat)(v:Ns)(l:List Ex)(on:List dY):Prop where
 x:∀x∈l,yx v.p v.i x
 fit:∀x∈l,c0 v.p v.i x on=true
 small:∀x∈l,(ax x).length<N
 on:on.length+(bC l).length<=1000
 big:JD v.first v.st (2*(bC l).length)
noncomputable def GY(N:Nat):List DV->List ak->sj:=Dn aLo λv x=>(ars N v x.1 x.2,.sl ((bN v.p v.i v.first x.1 x.2 v.st).1.map eD),(bN v.p v.i v.first x.1 x.2 v.st).2)
theorem lU(N:Nat){hp t:List ak}{q c d:Nat}{v:Ns}(k:Re hp q c d)(h1:v.ia<hp.length)(h2:v.oa<hp.length)(l:List Ex)(on:List dY):
 GY N [.ptr q 1 0 0,.sl (l.map cA),.sl (on.map eD)] (fY hp q c d v++t)=⟨ars N v l on,.sl ((bN v.p v.i v.first l on v.st).1.map eD),fY hp q c d {v with st:=(bN v.p v.i v.first l on v.st).2}++t⟩:=qb anQ _ k h1 h2 (l,on)
section
variable {hp t:List ak} {q c d:Nat} {v:Ns} {o o' x y:ak}
theorem iG:(fY hp q c d v).length=hp.length:=qX
theorem yB:(fY hp q c d v++(o::t))[hp.length]? =some o:=El
theorem zt:(fY hp q c d v++(x::o::t))[hp.length+1]? =some o:=anR
theorem pk:(fY hp q c d v++(o::t)).set hp.length o'=fY hp q c d v++(o'::t):=yC
theorem rV:(fY hp q c d v++(x::o::t)).set (hp.length+1) o'=fY hp q c d v++(x::o'::t):=ajK
end
theorem fW(x:Ex)(l:List Ex):bC (x::l)=ax x++bC l:=by rw[bC]
theorem Lk{l:List Ex}{k:Nat}{x:Ex}{r:List Ex}(h:l.drop k=x::r):(ax x).length+(bC r).length<=(bC l).length:=by
 have:∀(l:List Ex) (k:Nat),(bC (l.drop k)).length<=(bC l).length:=by
  intro l;induction l with
  |nil=>intro k;simp
  |cons y l ih=>
   intro k;cases k with
   |zero=>simp
   |succ k=>rw[List.drop_succ_cons,fW,List.length_append];have:=ih k;omega
 have h2:=this l k;rw[h,fW,List.length_append]at h2;exact h2
theorem Ov(N:Nat)(hA:g9 Tryz.prog 133 (pj N)):g9 Tryz.prog 130 (GY N):=by
 refine g9.mkN (ps:=[]) (hs:=[(133,pj N)]) trivial ⟨hA,trivial⟩ AF (λ_=>rfl) (λ_ _ _=>rfl) λq c d hp v x k h1 h2 bG=> ?_;obtain⟨l,on⟩:=x;dsimp only at bG|-;have hlp:l.length<=(bC l).length:=by
  clear bG;induction l with
  |nil=>simp
  |cons y l ih=>rw[fW,List.length_append,iA];simp;omega
 have BO:=bG.on;refine aq (A5 @qY.eq_1 @aLo.eq_1 @List.append_assoc.{0} @Nat.add_zero @iG) (JJ ?_);refine ai l (λj (x:List xx×Em)=>⟨[(0,.ptr q 1 0 0),(1,.sl (l.map cA)),(2,.sl (on.map eD)),(7,.own hp.length x.1.length 0 x.1.length),(8,.int .i64 j)],fY hp q c d {v with st:=x.2}++[⟨.aN,2,x.1.map eD⟩]⟩)
  (λj r x=>x.1.length=j/\JD v.first x.2 (2*(bC r).length)/\bN v.p v.i v.first l on v.st=(x.1++(bN v.p v.i v.first r on x.2).1,(bN v.p v.i v.first r on x.2).2)) ([],v.st) trivial CT ⟨rfl,bG.big,rfl⟩ (λj e r x dj hx hd hr=> ?_) (λj x ej hr=> ?_)
 ·obtain⟨out,st⟩:=x;obtain⟨r1,r2,r3⟩:=hr;dsimp only at r1 r2 r3;rw[bN]at r3;have hem:=List.mem_of_getElem? hx;have hpd:=Lk hd;rw[fW,List.length_append]at r2;have lI:okN N {v with st:=st} e on:=⟨bG.x e hem,bG.fit e hem,.inr (bG.small e hem),by omega,r2.mono (by omega)⟩;have e1:=yA N (v:={v with st:=st}) (t:=[⟨.aN,2,out.map eD⟩]) k h1 h2 e on;rw[eq_true lI]at e1;have hg:=GX (p:=v.p) (node:=v.i) (first:=v.first) e on st;have gx:=af cA hx;simp only[ag e]at e1 gx;generalize gU v.p v.i v.first e on st=y at*;obtain⟨⟨y1,y2⟩,st'⟩:=y;dsimp only at r3 hg e1;refine aq (A5 dj gx e1 @yB @pk) (JJ ?_);exact⟨(out++[(y1,y2)],st'),(CF @List.map_append.{0,0}),by simp[r1],hg.big (r2.mono (by omega)),by rw[r3];simp⟩
 ·obtain⟨out,st⟩:=x;obtain⟨r1,r2,r3⟩:=hr;dsimp only at r1 r2 r3;have r3:bN v.p v.i v.first l on v.st=(out,st):=by rw[r3,bN,List.append_nil]
  rw[r3];have ht:(out.map eD).take l.length=out.map eD:=List.take_of_length_le (by simp;omega);refine aq (A6 ej @r1 ht @yB @pk @dt) (JJ ?_);exact⟨_,_,rfl,rfl⟩
def mkR(p:cY)(node:Nat)(first:List UInt8)(e:Ex)(ats:List xx)(fr:Int):PlR:=
 if e.kind=5 then⟨2,e.op,ats,none,0,false,[],0⟩
 else if e.kind=6 then⟨3,e.op,ats,none,0,false,[],0⟩
 else if e.kind=7 then⟨4,0,ats,none,0,false,[],0⟩
 else if e.kind=14 then⟨8,0,ats,none,0,false,[],0⟩
 else if e.kind=15 then⟨9,0,ats,none,0,false,[],0⟩
 else if e.kind=16 then⟨10,0,ats,none,0,false,[],0⟩
 else if e.kind=13 then(if e.n=1 then⟨7,0,ats.take (e.ar.length-1),none,iR p e.name,true,(ats.getD (e.ar.length-1) ([],0)).1,(ats.getD (e.ar.length-1) ([],0)).2⟩
  else⟨7,0,ats,none,iR p e.name,false,[],0⟩)
 else if e.kind=8 then⟨5,0,ats.drop 1,some ((cC p.en (e.ar.getD 0 default)).getD ([],⟨0,0,0⟩)).1,0,false,[],0⟩
 else if e.kind=10 then⟨5,0,ats,some (zeroV ((oV p node e).getD ⟨0,0,0⟩)),0,false,[],0⟩
 else if e.kind=9 then⟨4,0,(cj first fr,0)::ats,none,0,false,[],0⟩
 else if e.kind=11 then⟨1,0,ats,none,0,false,[],0⟩
 else if e.kind=12 then⟨6,0,(e.name,0)::ats,none,0,false,[],0⟩
 else⟨1,0,[Mt p e],none,0,false,[],0⟩
theorem ajH(p:cY)(node:Nat)(first:List UInt8)(e:Ex)(ats:List xx)(fr:Int):XQ (mkR p node first e ats fr) [] []=xy p node first e ats fr:=by
 unfold mkR xy;have hc:((cC p.en (e.ar.getD 0 default)).map (·.1)).getD []=((cC p.en (e.ar.getD 0 default)).getD ([],⟨0,0,0⟩)).1:=by cases cC p.en (e.ar.getD 0 default)<;>rfl
 rw[hc];by_cases k5:e.kind=5
 ·rw[if_pos k5,if_pos k5];rfl
 rw[if_neg k5,if_neg k5];by_cases k6:e.kind=6
 ·rw[if_pos k6,if_pos k6];rfl
 rw[if_neg k6,if_neg k6];by_cases k7:e.kind=7
 ·rw[if_pos k7,if_pos k7];rfl
 rw[if_neg k7,if_neg k7];by_cases XJ:e.kind=14
 ·rw[if_pos XJ,if_pos XJ];rfl
 rw[if_neg XJ,if_neg XJ];by_cases k15:e.kind=15
 ·rw[if_pos k15,if_pos k15];rfl
 rw[if_neg k15,if_neg k15];by_cases k16:e.kind=16
 ·rw[if_pos k16,if_pos k16];rfl
 rw[if_neg k16,if_neg k16];by_cases Cy:e.kind=13
 ·rw[if_pos Cy,if_pos Cy];by_cases n1:e.n=1
  ·rw[if_pos n1,if_pos n1];rfl
  ·rw[if_neg n1,if_neg n1];rfl
 rw[if_neg Cy,if_neg Cy];by_cases k8:e.kind=8
 ·rw[if_pos k8,if_pos k8];rfl
 rw[if_neg k8,if_neg k8];by_cases WD:e.kind=10
 ·rw[if_pos WD,if_pos WD];rfl
 rw[if_neg WD,if_neg WD];by_cases k9:e.kind=9
 ·rw[if_pos k9,if_pos k9];rfl
 rw[if_neg k9,if_neg k9];by_cases M6:e.kind=11
 ·rw[if_pos M6,if_pos M6];rfl
 rw[if_neg M6,if_neg M6];by_cases AD:e.kind=12
 ·rw[if_pos AD,if_pos AD];rfl
 rw[if_neg AD,if_neg AD];rfl
def lr(v:Ns)(e:Ex)(on:List dY):List xx×Em:=bM v.p v.i v.first e.ar (mO v.p e on) (jA v.first e on v.st)
def IV(v:Ns)(e:Ex)(on:List dY):PlR:=mkR v.p v.i v.first e (lr v e on).1 (jA v.first e on v.st).fr
structure okM(N:Nat)(v:Ns)(e:Ex)(on:List dY):Prop where
 x:yx v.p v.i e
 fit:c0 v.p v.i e on=true
 small:(ax e).length<N+1
 on:on.length+(ax e).length<=1000
 big:JD v.first v.st (2*(ax e).length)
theorem ox(e:Ex):(ax e).length=1+(bC e.ar).length:=by rw[iA,List.length_cons];omega
theorem GZ{l:List Ex}{x:Ex}(h:x∈l):(ax x).length<=(bC l).length:=by
 induction l with
 |nil=>simp at h
 |cons y l ih=>
  rw[fW,List.length_append];rcases List.mem_cons.1 h with rfl|h
  ·omega
  ·have:=ih h;omega
theorem U2(x:PlR)(k:Nat):(DV.agg (G0 x)).rR k=true:=by obtain⟨a,b,c,i,e,f,g,h⟩:=x;cases i<;>rfl
theorem U3(l:List Ex):(∀e∈l.map cA,e.length=6)=True:=eq_true λe he=>by obtain⟨x,_,rfl⟩:=List.mem_map.1 he;rw[ag];rfl
noncomputable def U4(N:Nat):List DV->List ak->sj:=Dn U1 λv x=>(okM N v x.1 x.2/\x.1.kind=13,.agg (G0 (IV v x.1 x.2)),(lr v x.1 x.2).2)
theorem XR(N:Nat){hp t:List ak}{q c d:Nat}{v:Ns}(k:Re hp q c d)(h1:v.ia<hp.length)(h2:v.oa<hp.length)(e:Ex)(on:List dY):
 U4 N [.ptr q 1 0 0,.agg (cA e),.sl (on.map eD)] (fY hp q c d v++t)=⟨okM N v e on/\e.kind=13,.agg (G0 (IV v e on)),fY hp q c d {v with st:=(lr v e on).2}++t⟩:=qb M8 _ k h1 h2 (e,on)
theorem G1{p:cY}{i:Nat}{e:Ex}{on:List dY}(h:c0 p i e on=true)(hk:e.kind≠1/\e.kind≠2/\e.kind≠3/\e.kind≠4/\e.kind≠8/\e.kind≠11/\e.kind≠12):∀x∈e.ar,c0 p i x on=true:=by
 rw[iH,if_neg (by omega),if_neg (by omega),if_neg (by omega),if_neg (by omega),if_neg (by omega)]at h;split at h
 ·cases h
 ·rw[JE,List.all_eq_true]at h;exact h
theorem JF{v:Ns}{e:Ex}{on:List dY}(hk:e.kind≠8/\e.kind≠9/\e.kind≠11/\e.kind≠12):lr v e on=bN v.p v.i v.first e.ar on v.st/\jA v.first e on v.st=v.st:=by
 have h9:jA v.first e on v.st=v.st:=by unfold jA;rw[if_neg hk.2.1]
 refine⟨?_,h9⟩;unfold lr;rw[h9,<-xB];unfold mO;rw[if_neg hk.1,if_neg hk.2.2.1,if_neg hk.2.2.2]
theorem Ll{p:cY}{node:Nat}{first:List UInt8}{on:List dY}{x:Ex}:∀(l:List Ex) (st:Em),bN p node first (l++[x]) on st=
 ((bN p node first l on st).1++[(gU p node first x on (bN p node first l on st).2).1],(gU p node first x on (bN p node first l on st).2).2)
 |[],st=>rfl
 |y::l,st=>by rw[List.cons_append,bN,Ll l,bN];rfl
theorem okM.atoms{N:Nat}{v:Ns}{e:Ex}{on on':List dY}{l:List Ex}{st:Em}(h:okM N v e on)(hl:∀x∈l,x∈e.ar)(hn:(bC l).length<=(bC e.ar).length)(hf:∀x∈l,c0 v.p v.i x on'=true)(ho:on'.length+(bC l).length<=1000)(hb:JD v.first st (2*(bC l).length)):
 ars N {v with st:=st} l on':=
 ⟨λx hx=>h.x.sub (hl x hx),hf,λx hx=>by have:=jK (hl x hx);have:=h.small;omega,ho,hb⟩
theorem ajL(N:Nat)(hA:g9 Tryz.prog 133 (pj N)):g9 Tryz.prog 131 (U4 N):=by
 refine g9.mkN (ps:=[(150,G2)]) (hs:=[(130,GY N),(133,pj N)]) ⟨nM,trivial⟩ ⟨Ov N hA,hA,trivial⟩ CB (λ_=>rfl) (λ_ _ _=>U2 _ _) λq c d hp v x k h1 h2 bG=> ?_;obtain⟨e,on⟩:=x;dsimp only at bG|-;obtain⟨hM,Cy⟩:=bG;obtain⟨p5a,p5b,p5c⟩:=(dF hM.x.self.1).2.2.2.2.1 Cy;have hl8:=(dF hM.x.self.1).2.2.2.2.2.2;have mF:=U3 e.ar;have hw:IntKind.i64.wrap (e.ar.length:Int)=e.ar.length:=tH (by omega) (by omega);have U5:IntKind.i64.wrap ((e.ar.length:Int)-1)=(e.ar.length:Int)-1:=tH (by omega) (by omega);obtain⟨BP,hg2⟩:=JF (v:=v) (e:=e) (on:=on) ⟨by omega,by omega,by omega,by omega⟩;have z8:=ox e;have BO:=hM.on;have mK:=G1 hM.fit ⟨by omega,by omega,by omega,by omega,by omega,by omega,by omega⟩;have hP:=hM.x.1.1;have e1:=Eo v.p e.name;rw[eq_true hP]at e1;have gN:=λt=>yD (a:=oN c d v) (b:=cV v) (e:=cQ v) (t:=t) k;have gN':∀t,(fY hp q c d v++t)[q]? =some (oN c d v):=gN;rcases p5c with n0|n1
 ·have hz:IV v e on=⟨7,0,(bN v.p v.i v.first e.ar on v.st).1,none,iR v.p e.name,false,[],0⟩:=by unfold IV mkR;rw[BP];simp[Cy,n0]
  rw[hz,BP];have hk:(e.ar.length:Int)-0=e.ar.length:=by omega
  have uS:List.take e.ar.length (e.ar.map cA)=e.ar.map cA:=List.take_of_length_le (by simp);have e2:=λt=>lU N (v:=v) (t:=t) k h1 h2 e.ar on;simp only[eq_true (hM.atoms (st:=v.st) (λx hx=>hx) (Nat.le_refl _) mK (by omega) (hM.big.mono (by omega)))]at e2;refine SuN (A9 @mP.eq_1 @U1.eq_1 (ag e) Cy n0 e1 e2 gN' (A9 @oN.eq_1 hk uS mF hw @Option.isSome_none.{0} @Option.isSome_some.{0} @Bool.false_eq_true (A8 @List.append_assoc.{0} @Nat.add_zero @iG @yB @zt @pk @rV @dt))) (JJ ?_);exact⟨_,_,rfl,rfl⟩
 ·have bw:e.ar≠[]:=λhh=>by rw[hh]at p5a;simp at p5a;omega
  obtain⟨l0,x,hs⟩:∃l0 x,e.ar=l0++[x]:=⟨_,_,(List.dropLast_concat_getLast bw).symm⟩;have hl0:e.ar.length=l0.length+1:=by rw[hs];simp
  have hmx:x∈e.ar:=by rw[hs];simp
  have zo:∀y∈l0,y∈e.ar:=λy hy=>by rw[hs];simp[hy]
  have RH:(bC e.ar).length=(bC l0).length+(ax x).length:=by
   rw[hs];clear hs hl0 hmx zo bw;induction l0 with
   |nil=>rw[List.nil_append,fW];simp[bC]
   |cons y l ih=>rw[List.cons_append,fW,fW,List.length_append,List.length_append,ih];omega
  have ajM:bN v.p v.i v.first e.ar on v.st=((bN v.p v.i v.first l0 on v.st).1++[(gU v.p v.i v.first x on (bN v.p v.i v.first l0 on v.st).2).1],(gU v.p v.i v.first x on (bN v.p v.i v.first l0 on v.st).2).2):=by rw[hs,Ll]
  have hal:=Ek (p:=v.p) (node:=v.i) (first:=v.first) (on:=on) l0 v.st;have hz:IV v e on=⟨7,0,(bN v.p v.i v.first l0 on v.st).1,none,iR v.p e.name,true,(gU v.p v.i v.first x on (bN v.p v.i v.first l0 on v.st).2).1.1,(gU v.p v.i v.first x on (bN v.p v.i v.first l0 on v.st).2).1.2⟩:=by
   unfold IV mkR;rw[BP,ajM];have h7:e.ar.length-1=(bN v.p v.i v.first l0 on v.st).1.length:=by omega
   simp only[Cy,n1,h7,List.take_left,List.getD_eq_getElem?_getD,List.getElem?_concat_length,Option.getD_some];simp
  rw[hz,BP,ajM];have hgr:=af6 (p:=v.p) (node:=v.i) (first:=v.first) l0 on v.st;have e2:=λt=>lU N (v:=v) (t:=t) k h1 h2 l0 on;simp only[eq_true (hM.atoms (st:=v.st) zo (by omega) (λy hy=>mK y (zo y hy)) (by omega) (hM.big.mono (by omega)))]at e2;have e3:=λt=>yA N (v:={v with st:=(bN v.p v.i v.first l0 on v.st).2}) (t:=t) k h1 h2 x on;have hlx:=jK hmx;have zS:=hM.small;have ayk:okN N {v with st:=(bN v.p v.i v.first l0 on v.st).2} x on:=⟨hM.x.sub hmx,mK x hmx,.inr (by omega),by omega,hgr.big (hM.big.mono (by omega))⟩;simp only[eq_true ayk]at e3;have hw2:IntKind.i64.wrap ((e.ar.length:Int)-1)=(l0.length:Int):=by rw[U5];omega
  have uS:List.take l0.length (e.ar.map cA)=l0.map cA:=by rw[hs,List.map_append,List.take_left' (by simp)]
  have gx:(e.ar.map cA).getD l0.length []=cA x:=af cA (by rw[hs];simp);have fM:(l0.length:Int)<e.ar.length:=by omega
  have hle:(l0.length:Int)<=e.ar.length:=by omega
  have auz:l0.length<=e.ar.length:=by omega
  simp only[ag x]at e3 gx;generalize bN v.p v.i v.first l0 on v.st=A at*;obtain⟨A1,A2⟩:=A;dsimp only at e3 e2;generalize gU v.p v.i v.first x on A2=B at*;obtain⟨⟨B1,B2⟩,B3⟩:=B;dsimp only at e3;refine SuN (A9 @mP.eq_1 @U1.eq_1 (ag e) Cy n1 e1 e2 e3 (A9 gN' @oN.eq_1 gx uS fM hle mF hw2 (A9 @Option.isSome_none.{0} @Option.isSome_some.{0} @Bool.false_eq_true @List.append_assoc.{0} @Nat.add_zero @iG @yB @zt (A3 @pk @rV @dt)))) (JJ ?_);exact⟨_,_,rfl,rfl⟩
noncomputable def U6(N:Nat):List DV->List ak->sj:=Dn U1 λv x=>(okM N v x.1 x.2/\8<=x.1.kind/\x.1.kind<=12,.agg (G0 (IV v x.1 x.2)),(lr v x.1 x.2).2)
theorem XS(N:Nat){hp t:List ak}{q c d:Nat}{v:Ns}(k:Re hp q c d)(h1:v.ia<hp.length)(h2:v.oa<hp.length)(e:Ex)(on:List dY):
 U6 N [.ptr q 1 0 0,.agg (cA e),.sl (on.map eD)] (fY hp q c d v++t)=⟨okM N v e on/\8<=e.kind/\e.kind<=12,.agg (G0 (IV v e on)),fY hp q c d {v with st:=(lr v e on).2}++t⟩:=qb M8 _ k h1 h2 (e,on)
theorem Ow(x:Ex):(bC [x]).length=(ax x).length:=by rw[fW];simp[bC]
theorem aeg(l:List dY):(∀e∈l.map eD,e.length=2)=True:=eq_true λe he=>by obtain⟨x,_,rfl⟩:=List.mem_map.1 he;rfl
theorem auA{p:cY}{i:Nat}{e a b:Ex}{on:List dY}(h:c0 p i e on=true)(k:e.kind=8)(hs:e.ar=[a,b]):c0 p i b on=true:=by rw[iH,if_neg (by omega),if_neg (by omega),if_pos k,hs]at h;simpa[ng]using h
theorem auB{hp j:List ak}{q c d:Nat}{v:Ns}{x y o:ak}:(fY hp q c d v++(x::y::(j++[o])))[hp.length+(j.length+1+1)]? =some o:=by rw[List.getElem?_append_right (by rw[iG];omega),iG];simp
theorem aru{hp j:List ak}{q c d:Nat}{v:Ns}{x y o o':ak}:(fY hp q c d v++(x::y::(j++[o]))).set (hp.length+(j.length+1+1)) o'=fY hp q c d v++(x::y::(j++[o'])):=by rw[List.set_append_right _ _ (by rw[iG];omega),iG];simp
theorem ajN{p:cY}{i:Nat}{s:List UInt8}{on:List dY}:∀{l:List Ex} {a:List (List UInt8)} {j:Nat} {x:Ex} {c:List UInt8},mgF p i s on l a=true->l[j]? =some x->a[j]? =some c->c0 p i x (on++[(s,tQ p c)])=true
 |y::l,b::a,0,x,c,h,h1,h2=>by simp at h1 h2;subst h1;subst h2;rw[Ox]at h;simp only[Bool.and_eq_true]at h;exact h.2.1
 |y::l,b::a,j+1,x,c,h,h1,h2=>by rw[Ox]at h;simp only[Bool.and_eq_true]at h;exact ajN (l:=l) (a:=a) (j:=j) h.2.2 (by simpa using h1) (by simpa using h2)
 |[],_,_,_,_,_,h1,_=>by simp at h1
 |_::_,[],_,_,_,_,_,h2=>by simp at h2
theorem arv{p:cY}{i:Nat}{e a:Ex}{on:List dY}{m:List UInt8}(h:c0 p i e on=true)(k:e.kind=11)(hs:e.ar=[a])(ha:e.arms=[m]):∃row,da p i e.name=some row/\on=row++[(e.name,(fA p.en m).2.1)]/\c0 p i a row=true:=by
 rw[iH,if_neg (by omega),if_neg (by omega),if_neg (by omega),if_pos k,hs,ha]at h;cases hr:da p i e.name with
 |none=>rw[hr]at h;cases h
 |some row=>
  rw[hr]at h;simp[ng]at h;exact⟨row,rfl,h.1.2,h.2⟩
theorem ajP(N:Nat)(hA:g9 Tryz.prog 133 (pj N)):g9 Tryz.prog 132 (U6 N):=by
 refine g9.mkN (ps:=[(151,G3),(99,zu 300),(152,abD),(97,xC),(153,Oy)]) (hs:=[(130,GY N),(133,pj N),(100,U7)]) ⟨sr,Oz 300,Ep,cG,nN,trivial⟩ ⟨Ov N hA,hA,aeh,trivial⟩ CC (λ_=>rfl) (λ_ _ _=>U2 _ _) λq c d hp v x k h1 h2 bG=> ?_;obtain⟨e,on⟩:=x;dsimp only at bG|-;obtain⟨hM,k8,AD⟩:=bG;have z8:=ox e;have BO:=hM.on;have Mu:=hM.big;have AG:=hM.x.self.1;have hE:=tR hM.x.1.1;have zS:=hM.x.2.2.1;obtain⟨p1,p2,p3,p4,p5,p6,p7⟩:=dF AG;have mF:=U3 e.ar;have auC:=aeg on;have gN':∀t,(fY hp q c d v++t)[q]? =some (oN c d v):=λt=>yD (a:=oN c d v) (b:=cV v) (e:=cQ v) (t:=t) k;by_cases c8:e.kind=8
 ·obtain⟨a,b,hs⟩:=p2 (.inr (.inl c8));have hfb:=auA hM.fit c8 hs;have hma:a∈e.ar:=by rw[hs];simp
  have hmb:b∈e.ar:=by rw[hs];simp
  have hp9:jA v.first e on v.st=v.st:=by unfold jA;rw[if_neg (by omega)]
  have hA8:lr v e on=(([],0)::(bN v.p v.i v.first [b] on v.st).1,(bN v.p v.i v.first [b] on v.st).2):=by unfold lr mO;rw[hp9,if_pos c8,hs];simp only[List.drop_succ_cons,List.drop_zero,List.map_cons,List.map_nil,bM,bN]
  have hz:IV v e on=⟨5,0,(bN v.p v.i v.first [b] on v.st).1,some ((cC v.p.en a).getD ([],⟨0,0,0⟩)).1,0,false,[],0⟩:=by unfold IV mkR;rw[hA8,hp9,hs];simp[c8]
  rw[hz,hA8];have e1:=AH v.p.en a;rw[eq_true (show AJ v.p.en/\er a=true from⟨hE,Er zS hma⟩)]at e1;have e2:=λt=>lU N (v:=v) (t:=t) k h1 h2 [b] on;have hpb:=GZ hmb;have nq:=Ow b;simp only[eq_true (hM.atoms (st:=v.st) (l:=[b]) (λx hx=>by simp at hx;rw[hx];exact hmb) (by omega) (λx hx=>by simp at hx;rw[hx];exact hfb) (by omega) (Mu.mono (by omega)))]at e2;have g0:(e.ar.map cA).getD 0 []=cA a:=by rw[hs];rfl
  have gd:((e.ar.map cA).take 2).drop 1=[b].map cA:=by rw[hs];rfl
  have l2:e.ar.length=2:=by rw[hs];rfl
  simp only[ag a]at e1 g0;generalize bN v.p v.i v.first [b] on v.st=A at*;generalize (cC v.p.en a).getD ([],⟨0,0,0⟩)=C at*;generalize (cC v.p.en a).isSome=cb at*;obtain⟨A1,A2⟩:=A;obtain⟨C1,⟨C2,C3,C4⟩⟩:=C;dsimp only at e2 e1|-;generalize hbm:[b].map cA=bm at*;refine SuN (A9 @fh.eq_1 @U1.eq_1 (ag e) c8 e1 e2 g0 gd (A9 l2 mF gN' @oN.eq_1 @Option.isSome_none.{0} @Bool.false_eq_true @List.append_assoc.{0} @Nat.add_zero (A6 @iG @yB @zt @pk @rV @dt))) (JJ ?_);all_goals exact⟨_,_,rfl,rfl⟩
 by_cases SD:e.kind=10
 ·obtain⟨BP,hg2⟩:=JF (v:=v) (e:=e) (on:=on) ⟨by omega,by omega,by omega,by omega⟩;have mK:=G1 hM.fit ⟨by omega,by omega,by omega,by omega,by omega,by omega,by omega⟩;have hz:IV v e on=⟨5,0,(bN v.p v.i v.first e.ar on v.st).1,some (zeroV ((oV v.p v.i e).getD ⟨0,0,0⟩)),0,false,[],0⟩:=by unfold IV mkR;rw[BP];simp[SD]
  rw[hz,BP];have e1:=ajQ hM.x;rw[Int.toNat_natCast]at e1;have e2:=λt=>lU N (v:=v) (t:=t) k h1 h2 e.ar on;simp only[eq_true (hM.atoms (st:=v.st) (λx hx=>hx) (Nat.le_refl _) mK (by omega) (Mu.mono (by omega)))]at e2;have e3:=af8 ((oV v.p v.i e).getD ⟨0,0,0⟩);simp only[ag e,SD]at e1;generalize bN v.p v.i v.first e.ar on v.st=A at*;generalize (oV v.p v.i e).getD ⟨0,0,0⟩=T at*;generalize (oV v.p v.i e).isSome=tb at*;obtain⟨A1,A2⟩:=A;obtain⟨T1,T2,T3⟩:=T;dsimp only at e2 e1 e3|-;refine aq (A9 @fh.eq_1 @U1.eq_1 (ag e) SD e1 e2 e3 gN' (A9 @oN.eq_1 @Bool.false_eq_true @List.append_assoc.{0} @Nat.add_zero @iG @yB @zt @pk (And.intro @rV @dt))) (JJ ?_);all_goals exact⟨_,_,rfl,rfl⟩
 by_cases c9:e.kind=9
 ·have mK:=G1 hM.fit ⟨by omega,by omega,by omega,by omega,by omega,by omega,by omega⟩;have hA9:lr v e on=bN v.p v.i v.first e.ar on (jA v.first e on v.st):=by unfold lr mO;rw[if_neg (by omega),if_neg (by omega),if_neg (by omega),xB]
  have hz:IV v e on=⟨4,0,(cj v.first (jA v.first e on v.st).fr,0)::(bN v.p v.i v.first e.ar on (jA v.first e on v.st)).1,none,0,false,[],0⟩:=by unfold IV mkR;rw[hA9];simp[c9]
  rw[hz,hA9];have e1:=λt=>OA (v:=v) (t:=t) k h1 h2 ⟨5,0,[([],0)],some [1],0,false,[],0⟩ none ⟨2,0,0⟩ on;simp only[eq_true (Mu.mono (show 1<=2*(ax e).length by omega))]at e1;have h9:kC v.first (XQ ⟨5,0,[([],0)],some [1],0,false,[],0⟩ [] []) ((none:Option (List (List UInt8))).getD []) ⟨2,0,0⟩ on v.st=(cj v.first (jA v.first e on v.st).fr,jA v.first e on v.st):=by unfold jA;rw[if_pos c9];rfl
  rw[h9]at e1;have hgr:=U0 v.first e on v.st;generalize jA v.first e on v.st=s9 at*;have e2:=λt=>lU N (v:={v with st:=s9}) (t:=t) k h1 h2 e.ar on;simp only[eq_true (hM.atoms (st:=s9) (λx hx=>hx) (Nat.le_refl _) mK (by omega) (hgr.big (Mu.mono (by omega))))]at e2;simp only[G0,AK,BQ,cX,eD,cK,List.map_cons,List.map_nil]at e1;have hal:=Ek (p:=v.p) (node:=v.i) (first:=v.first) (on:=on) e.ar s9;generalize cj v.first s9.fr=fn at*;generalize bN v.p v.i v.first e.ar on s9=A at*;obtain⟨A1,A2⟩:=A;dsimp only at e2 e1 hal|-;have hrA:=aeg A1;have htk:List.take (1+A1.length) ([DV.str fn,DV.int .i64 0]::A1.map eD)=[DV.str fn,DV.int .i64 0]::A1.map eD:=List.take_of_length_le (by simp;omega);refine aq (A9 @fh.eq_1 @U1.eq_1 (ag e) c9 e1 e2 hrA htk (A9 @Bool.false_eq_true @List.append_assoc.{0} @Nat.add_zero @iG @yB @zt @pk @rV @dt)) (JJ ?_);all_goals exact⟨_,_,rfl,rfl⟩
 by_cases RJ:e.kind=11
 ·obtain⟨a,hs⟩:=p1 (.inr (.inr RJ));obtain⟨m,hm⟩:=ajR AG RJ;obtain⟨row,hr1,IW,hr3⟩:=arv hM.fit RJ hs hm;have hma:a∈e.ar:=by rw[hs];simp
  have hpa:=GZ hma;have nq:=Ow a;have hp9:jA v.first e on v.st=v.st:=by unfold jA;rw[if_neg (by omega)]
  have uT:on.dropLast=row:=by rw[IW,List.dropLast_concat]
  have auE:lr v e on=bN v.p v.i v.first [a] row v.st:=by unfold lr mO;rw[hp9,if_neg (by omega),if_pos RJ,hs,uT,xB]
  have hz:IV v e on=⟨1,0,(bN v.p v.i v.first [a] row v.st).1,none,0,false,[],0⟩:=by unfold IV mkR;rw[auE];simp[RJ]
  rw[hz,auE];have hrl:on.length=row.length+1:=by rw[IW];simp
  have e2:=λt=>lU N (v:=v) (t:=t) k h1 h2 [a] row;simp only[eq_true (hM.atoms (st:=v.st) (l:=[a]) (λx hx=>by simp at hx;rw[hx];exact hma) (by omega) (λx hx=>by simp at hx;rw[hx];exact hr3) (by omega) (Mu.mono (by omega)))]at e2;have gs:e.ar.map cA=[a].map cA:=by rw[hs]
  have gt:(on.map eD).take row.length=row.map eD:=by rw[IW,List.map_append,List.take_left' (by simp)]
  have hw:IntKind.i64.wrap ((on.length:Int)-1)=(row.length:Int):=by rw[tH (by omega) (by omega)];omega
  have hle:(row.length:Int)<=on.length:=by omega
  have auz:row.length<=on.length:=by omega
  generalize bN v.p v.i v.first [a] row v.st=A at*;obtain⟨A1,A2⟩:=A;dsimp only at e2|-;generalize hbm:[a].map cA=bm at*;refine SuN (A9 @fh.eq_1 @U1.eq_1 (ag e) RJ e2 gs gt hw (A9 hle auC @Option.isSome_none.{0} @Option.isSome_some.{0} @Bool.false_eq_true @List.append_assoc.{0} @Nat.add_zero @iG (A3 @yB @pk @dt))) (JJ ?_);all_goals exact⟨_,_,rfl,rfl⟩
 have Mv:e.kind=12:=by omega
 obtain⟨p4a,p4b,p4c⟩:=p4 Mv;have hmg:mgF v.p v.i e.name on e.ar e.arms=true:=by have:=hM.fit;rw[iH,if_neg (by omega),if_neg (by omega),if_neg (by omega),if_neg (by omega),if_pos Mv,Bool.and_assoc,U8 p4a.symm,Bool.and_eq_true]at this;exact this.2
 have hp9:jA v.first e on v.st=v.st:=by unfold jA;rw[if_neg (by omega)]
 have auF:lr v e on=bM v.p v.i v.first e.ar (e.arms.map λc=>some (on++[(e.name,tQ v.p c)])) v.st:=by unfold lr mO;rw[hp9,if_neg (by omega),if_neg (by omega),if_pos Mv]
 have hz:IV v e on=⟨6,0,(e.name,0)::(bM v.p v.i v.first e.ar (e.arms.map λc=>some (on++[(e.name,tQ v.p c)])) v.st).1,none,0,false,[],0⟩:=by unfold IV mkR;rw[auF];simp[Mv]
 rw[hz,auF];have e1:=λc=>nh v.p.en c;simp only[eq_true hE]at e1;generalize auG:(e.arms.map λc=>some (on++[(e.name,tQ v.p c)]))=w6 at*;have XC:w6.length=e.ar.length:=by rw[<-auG];simp;omega
 refine aq (A8 @fh.eq_1 @U1.eq_1 (ag e) Mv @Bool.false_eq_true @List.append_assoc.{0} @Nat.add_zero @iG) (JJ ?_);refine ai e.ar (λj (x:List xx×Em×List ak)=>⟨[(0,.ptr q 1 0 0),(2,.sl (on.map eD)),(4,.ref (cA e)),(6,.ptr hp.length 1 0 0),(13,.own (hp.length+1) x.1.length 0 x.1.length),(14,.int .i64 j)],fY hp q c d {v with st:=x.2.1}++(⟨.loc,10,[[.int .i64 0,.nil,.int .i64 0,.nil,.nil,.int .i64 0,.bool false,.str [],.int .i64 0,.nil]]⟩::⟨.aN,2,x.1.map eD⟩::x.2.2)⟩)
  (λj r x=>x.1.length=j+1/\JD v.first x.2.1 (2*(bC r).length)/\(((e.name,0)::(bM v.p v.i v.first e.ar w6 v.st).1,(bM v.p v.i v.first e.ar w6 v.st).2):List xx×Em)=(x.1++(bM v.p v.i v.first r (w6.drop j) x.2.1).1,(bM v.p v.i v.first r (w6.drop j) x.2.1).2)) ([(e.name,0)],v.st,[]) trivial (CF (A2 (ag e) Mv)) ⟨rfl,Mu.mono (by omega),rfl⟩ (λj x r y dj hx hd hr=> ?_) (λj y ej hr=> ?_)
 ·obtain⟨out,st,jk⟩:=y;obtain⟨r1,r2,r3⟩:=hr;dsimp only at r1 r2 r3;have dja:j<e.arms.length:=by omega
  obtain⟨cc,q1,q2⟩:=dP e.arms dja;have hod:w6.drop j=some (on++[(e.name,tQ v.p cc)])::w6.drop (j+1):=by rw[<-auG,<-List.map_drop,<-List.map_drop,q2];rfl
  rw[hod,bM]at r3;have Rf:=List.mem_of_getElem? hx;have hpd:=Lk hd;rw[fW,List.length_append]at r2;have hfx:=ajN hmg hx q1;have hlx:=jK Rf;have aCz:=hM.small;have lI:okN N {v with st:=st} x (on++[(e.name,tQ v.p cc)]):=⟨hM.x.sub Rf,hfx,.inr (by omega),by simp;omega,r2.mono (by omega)⟩;have e2:=λt=>yA N (v:={v with st:=st}) (t:=t) k h1 h2 x (on++[(e.name,tQ v.p cc)]);simp only[eq_true lI]at e2;have hg:=GX (p:=v.p) (node:=v.i) (first:=v.first) x (on++[(e.name,tQ v.p cc)]) st;have gx:=af cA hx;have ga:=fk q1;have e1c:=e1 cc;have hav:tQ v.p cc=(fA v.p.en cc).2.1:=rfl;have e3:=JG on e.name (tQ v.p cc);rw[eq_true (show on.length<=1000000 by omega)]at e3;rw[<-hav]at e1c;simp only[ag x]at e2 gx;generalize tQ v.p cc=av at*;generalize (fA v.p.en cc).1=at1 at*;generalize (fA v.p.en cc).2.2=U9 at*;generalize on++[(e.name,av)]=on2 at*;generalize gU v.p v.i v.first x on2 st=yy at*;obtain⟨⟨y1,y2⟩,st'⟩:=yy;obtain⟨w1,w2,w3⟩:=at1;dsimp only at r3 hg e2;have gN2:∀t,(fY hp q c d {v with st:=st}++t)[q]? =some (oN c d {v with st:=st}):=λt=>yD (a:=oN c d {v with st:=st}) (b:=cV {v with st:=st}) (e:=cQ {v with st:=st}) (t:=t) k;have hja:(j:Int)<e.arms.length:=by omega
  refine aq (A9 @aj (ag e) Mv dj hja gx ga gN2 (A9 e1c e2 e3 @auB @aru @oN.eq_1 @Bool.false_eq_true @List.append_assoc.{0} (A4 @Nat.add_zero @iG @zt @rV))) (JJ ?_);exact⟨(out++[(y1,y2)],st',jk++[⟨.loc,3,[[.int .i64 w1,.int .i64 w2,.int .i64 w3]]⟩]),(CF @List.map_append.{0,0}),by simp[r1],hg.big (r2.mono (by omega)),by rw[r3];simp⟩
 ·obtain⟨out,st,jk⟩:=y;obtain⟨r1,r2,r3⟩:=hr;dsimp only at r1 r2 r3;rw[bM,List.append_nil,Prod.mk.injEq]at r3;obtain⟨ho,Sj⟩:=r3;rw[ho,Sj];have htk:List.take (e.ar.length+1) (out.map eD)=out.map eD:=List.take_of_length_le (by simp;omega);refine aq (A9 (ag e) Mv ej @r1 htk @yB @zt @pk (A2 @rV @dt)) (JJ ?_);exact⟨_,_,rfl,rfl⟩
noncomputable def OB(N:Nat):List DV->List ak->sj:=Dn U1 λv x=>(okM N v x.1 x.2,.agg (G0 (IV v x.1 x.2)),(lr v x.1 x.2).2)
theorem Vb(N:Nat){hp t:List ak}{q c d:Nat}{v:Ns}(k:Re hp q c d)(h1:v.ia<hp.length)(h2:v.oa<hp.length)(e:Ex)(on:List dY):
 OB N [.ptr q 1 0 0,.agg (cA e),.sl (on.map eD)] (fY hp q c d v++t)=⟨okM N v e on,.agg (G0 (IV v e on)),fY hp q c d {v with st:=(lr v e on).2}++t⟩:=qb M8 _ k h1 h2 (e,on)
theorem ajS{e:Ex}(h:ew e=true)(k:1<=e.kind/\e.kind<=4):e.ar=[]:=by
 have hl:=(ni h).2.2.2;have:(qZ e).2=0:=by unfold qZ;rw[if_neg (by omega),if_neg (by omega),if_neg (by omega),if_neg (by omega),if_neg (by omega),if_neg (by omega)]
 rw[this]at hl;exact List.length_eq_zero_iff.1 (by omega)
theorem Vc{p:cY}{i:Nat}{e:Ex}(h:oy p i e=true):e.kind≠17:=by intro hk;unfold oy at h;simp[hk]at h
theorem af9(N:Nat)(hA:g9 Tryz.prog 133 (pj N)):g9 Tryz.prog 98 (OB N):=by
 refine g9.mkN (ps:=[]) (hs:=[(130,GY N),(131,U4 N),(132,U6 N),(133,pj N)]) trivial ⟨Ov N hA,ajL N hA,ajP N hA,hA,trivial⟩ AL (λ_=>rfl) (λ_ _ _=>U2 _ _) λq c d hp v x k h1 h2 bG=> ?_;obtain⟨e,on⟩:=x;dsimp only at bG|-;have hM:=bG;have z8:=ox e;have BO:=hM.on;have Mu:=hM.big;have AG:=hM.x.self.1;have h17:=Vc hM.x.self.2;have hkr:=ni AG;have mF:=U3 e.ar;have gN':∀t,(fY hp q c d v++t)[q]? =some (oN c d v):=λt=>yD (a:=oN c d v) (b:=cV v) (e:=cQ v) (t:=t) k;by_cases cg:e.kind=5\/e.kind=6\/e.kind=7\/e.kind=14\/e.kind=15\/e.kind=16
 ·obtain⟨BP,hg2⟩:=JF (v:=v) (e:=e) (on:=on) ⟨by omega,by omega,by omega,by omega⟩;have mK:=G1 hM.fit ⟨by omega,by omega,by omega,by omega,by omega,by omega,by omega⟩;have e2:=λt=>lU N (v:=v) (t:=t) k h1 h2 e.ar on;simp only[eq_true (hM.atoms (st:=v.st) (λx hx=>hx) (Nat.le_refl _) mK (by omega) (Mu.mono (by omega)))]at e2;unfold IV;rw[BP];generalize bN v.p v.i v.first e.ar on v.st=A at*;obtain⟨A1,A2⟩:=A;dsimp only at e2|-;rcases cg with cg|cg|cg|cg|cg|cg;all_goals(refine aq (A9 @fZ.eq_1 @U1.eq_1 (ag e) cg e2 @List.append_assoc.{0} @Nat.add_zero @iG (A3 @yB @pk @dt)) (JJ ?_))
  all_goals exact⟨by simp[mkR,cg,oSl],_,_,rfl,rfl⟩
 have n5:¬e.kind=5:=by omega
 have n6:¬e.kind=6:=by omega
 have n7:¬e.kind=7:=by omega
 have n14:¬e.kind=14:=by omega
 have n15:¬e.kind=15:=by omega
 have n16:¬e.kind=16:=by omega
 by_cases Vd:e.kind=13
 ·have e2:=λt=>XR N (v:=v) (t:=t) k h1 h2 e on;simp only[eq_true (show okM N v e on/\e.kind=13 from⟨hM,Vd⟩)]at e2;simp only[ag e,Vd]at e2;generalize lr v e on=A at*;generalize IV v e on=R at*;obtain⟨A1,A2⟩:=A;obtain⟨R1,R2,R3,R4,R5,R6,R7,R8⟩:=R;dsimp only at e2|-;refine aq (A9 @fZ.eq_1 @U1.eq_1 (ag e) Vd e2 @List.append_assoc.{0} @Nat.add_zero @iG (A3 @yB @pk @dt)) (JJ ?_);all_goals first|exact⟨_,_,rfl,rfl⟩|exact⟨by cases R4<;>rfl,_,_,rfl,rfl⟩
 by_cases cf:8<=e.kind/\e.kind<=12
 ·have e2:=λt=>XS N (v:=v) (t:=t) k h1 h2 e on;simp only[eq_true (show okM N v e on/\8<=e.kind/\e.kind<=12 from⟨hM,cf.1,cf.2⟩)]at e2;simp only[ag e]at e2;generalize lr v e on=A at*;generalize IV v e on=R at*;obtain⟨A1,A2⟩:=A;obtain⟨R1,R2,R3,R4,R5,R6,R7,R8⟩:=R;dsimp only at e2|-;obtain cf|cf|cf|cf|cf:e.kind=8\/e.kind=9\/e.kind=10\/e.kind=11\/e.kind=12:=by omega
  all_goals simp only[cf]at e2
  all_goals(refine aq (A9 @fZ.eq_1 @U1.eq_1 (ag e) cf e2 @List.append_assoc.{0} @Nat.add_zero @iG (A3 @yB @pk @dt)) (JJ ?_))
  all_goals first|exact⟨_,_,rfl,rfl⟩|exact⟨by cases R4<;>rfl,_,_,rfl,rfl⟩
 have c14:1<=e.kind/\e.kind<=4:=by omega
 have hsn:=ajS AG c14;have hA0:lr v e on=([],v.st):=by unfold lr jA;rw[if_neg (by omega),hsn,bM]
 have hz:IV v e on=⟨1,0,[Mt v.p e],none,0,false,[],0⟩:=by unfold IV mkR;rw[if_neg n5,if_neg n6,if_neg n7,if_neg n14,if_neg n15,if_neg n16,if_neg Vd,if_neg (by omega),if_neg (by omega),if_neg (by omega),if_neg (by omega),if_neg (by omega)]
 rw[hz,hA0];have e2:=λt=>yA N (v:=v) (t:=t) k h1 h2 e on;simp only[eq_true (show okN N v e on from⟨hM.x,hM.fit,.inl c14,BO,Mu⟩)]at e2;rw[qW,if_pos c14]at e2;simp only[ag e]at e2;generalize Mt v.p e=B at*;obtain⟨B1,B2⟩:=B;dsimp only at e2|-;have m8:¬e.kind=8:=by omega
 have m9:¬e.kind=9:=by omega
 have m10:¬e.kind=10:=by omega
 have m11:¬e.kind=11:=by omega
 have m12:¬e.kind=12:=by omega
 refine aq (A9 @fZ.eq_1 @U1.eq_1 (ag e) e2 @List.append_assoc.{0} @Nat.add_zero @iG @yB (A2 @pk @dt)) (JJ (λhn hn hn hn hn hn hn hn hn hn hn hn=> ?_));all_goals exact⟨_,_,rfl,rfl⟩
theorem ajT(v:Ns)(e:Ex)(on:List dY):Gr v.st (lr v e on).2 (2*(ax e).length-1):=by have h1:=U0 v.first e on v.st;have h2:=AE (p:=v.p) (node:=v.i) (first:=v.first) e.ar (mO v.p e on) (jA v.first e on v.st) λx _=>GX x;exact(h1.trans h2).mono (by have:=ox e;omega)
theorem ajU{f:List UInt8}{q:Pl}{nm:List (List UInt8)}{t t':Ty}{on:List dY}{st:Em}(h:nm≠[]):kC f q nm t on st=kC f q nm t' on st:=by unfold kC;rw[if_neg h,if_neg h]
theorem aga(v:Ns)(e:Ex)(nm:List (List UInt8))(on:List dY):eX v.p v.i v.first e nm on v.st=kC v.first (XQ (IV v e on) [] []) nm ((oV v.p v.i e).getD ⟨0,0,0⟩) on (lr v e on).2:=by unfold eX lT IV;rw[ajH];rfl
abbrev ApA:=Ex×Option (List (List UInt8))×List dY
def OC(x:ApA):List DV:=[.agg (cA x.1),oNm x.2.1,.sl (x.2.2.map eD)]
theorem abE:GK OC:=λx y h=>by obtain⟨a,b,c⟩:=x;obtain⟨a',b',c'⟩:=y;injection h with h1 h;injection h with h2 h;injection h with h3 h;injection h1 with h1;injection h3 with h3;have e1:a=a':=yz _ _ h1;have e2:b=b':=aei _ _ h2;have e3:c=c':=map_inj mu _ _ h3;rw[e1,e2,e3]
noncomputable def GV(N:Nat):List DV->List ak->sj:=Dn OC λv x=>(okM N v x.1 x.2.2,.str (eX v.p v.i v.first x.1 (x.2.1.getD []) x.2.2 v.st).1,(eX v.p v.i v.first x.1 (x.2.1.getD []) x.2.2 v.st).2)
theorem Lj(N:Nat){hp t:List ak}{q c d:Nat}{v:Ns}(k:Re hp q c d)(h1:v.ia<hp.length)(h2:v.oa<hp.length)(e:Ex)(nm:Option (List (List UInt8)))(on:List dY):
 GV N [.ptr q 1 0 0,.agg (cA e),oNm nm,.sl (on.map eD)] (fY hp q c d v++t)=⟨okM N v e on,.str (eX v.p v.i v.first e (nm.getD []) on v.st).1,fY hp q c d {v with st:=(eX v.p v.i v.first e (nm.getD []) on v.st).2}++t⟩:=qb abE _ k h1 h2 (e,nm,on)
theorem XL(N:Nat)(hA:g9 Tryz.prog 133 (pj N)):g9 Tryz.prog 69 (GV N):=by
 refine g9.mkN (ps:=[(99,zu 300)]) (hs:=[(98,OB N),(100,U7)]) ⟨Oz 300,trivial⟩ ⟨af9 N hA,aeh,trivial⟩ AM (λ_=>rfl) (λ_ _ _=>rfl) λq c d hp v x k h1 h2 bG=> ?_;obtain⟨e,nm,on⟩:=x;dsimp only at bG|-;have hM:=bG;have e1:=λt=>Vb N (v:=v) (t:=t) k h1 h2 e on;simp only[eq_true hM]at e1;have e3:=ajQ hM.x;rw[Int.toNat_natCast]at e3;rw[aga];have hgr:=ajT v e on;have Mu:=hM.big;have z8:=ox e;generalize lr v e on=A at*;generalize IV v e on=R at*;obtain⟨A1,A2⟩:=A;dsimp only at e1 hgr|-;have e2:=λt nm ty=>OA (v:={v with st:=A2}) (t:=t) k h1 h2 R nm ty on;simp only[eq_true (hgr.big (m:=1) (Mu.mono (by omega)))]at e2;have gN':∀t,(fY hp q c d {v with st:=A2}++t)[q]? =some (oN c d {v with st:=A2}):=λt=>yD (a:=oN c d {v with st:=A2}) (b:=cV {v with st:=A2}) (e:=cQ {v with st:=A2}) (t:=t) k;simp only[ag e]at e1 e3;generalize (oV v.p v.i e).getD ⟨0,0,0⟩=T at*;generalize (oV v.p v.i e).isSome=tb at*;obtain⟨R1,R2,R3,R4,R5,R6,R7,R8⟩:=R;obtain⟨T1,T2,T3⟩:=T;rcases nm with _|nl
 ·have e20:=λt=>e2 t none ⟨T1,T2,T3⟩;simp only[BQ]at e20;refine aq (A9 @ja.eq_1 @OC.eq_1 (ag e) @BQ e1 e20 e3 gN' (A9 @oN.eq_1 @Bool.false_eq_true @List.append_assoc.{0} @Nat.add_zero @iG @yB @zt @pk (And.intro @rV @dt))) (JJ ?_);all_goals first
   |exact⟨_,_,rfl,rfl⟩
   |exact⟨by cases R4<;>rfl,_,_,rfl,rfl⟩
 ·by_cases hn:nl=[]
  ·subst hn;have hz:((([]:List (List UInt8)).length:Nat):Int)=0:=rfl;have e20:=λt=>e2 t (some []) ⟨T1,T2,T3⟩;simp only[q0]at e20;refine aq (A9 @ja.eq_1 @aj @OC.eq_1 (ag e) @q0 e1 e20 e3 (A9 gN' @oN.eq_1 @Bool.false_eq_true @List.append_assoc.{0} @Nat.add_zero @iG @yB @zt (A3 @pk @rV @dt))) (JJ ?_);all_goals first
    |exact⟨_,_,rfl,rfl⟩
    |exact⟨by cases R4<;>rfl,_,_,rfl,rfl⟩
  ·have sK:=List.length_pos_iff.2 hn;have hz:¬(nl.length:Int)=0:=by omega
   have e20:=λt=>e2 t (some nl) ⟨0,0,0⟩;simp only[q0]at e20;have fj:=λ(q:Pl)=>ajU (f:=v.first) (q:=q) (nm:=(some nl).getD []) (t:=⟨T1,T2,T3⟩) (t':=⟨0,0,0⟩) (on:=on) (st:=A2) hn;rw[fj];clear e2 fj;rcases R4 with _|i4;all_goals simp only[G0,G4,AK]at e1 e20
   all_goals(refine aq (A9 @ja.eq_1 @aj @OC.eq_1 (ag e) @q0 e1 e20 @List.append_assoc.{0} (A7 @Nat.add_zero @iG @yB @zt @pk @rV @dt)) (JJ (λhn=> ?_)))
   all_goals first
    |exact⟨_,_,rfl,rfl⟩
theorem ajV:g9 Tryz.prog 133 (pj 0):=by
 refine g9.mkN (ps:=[(97,xC)]) (hs:=[]) ⟨cG,trivial⟩ trivial su (λ_=>rfl) (λ_ _ _=>rfl) λq c d hp v x k h1 h2 bG=> ?_;obtain⟨e,on⟩:=x;dsimp only at bG|-;have hM:=bG;have hE:=tR hM.x.1.1;have AG:=hM.x.self.1;have h17:=Vc hM.x.self.2;have hkr:=ni AG;have gN':∀t,(fY hp q c d v++t)[q]? =some (oN c d v):=λt=>yD (a:=oN c d v) (b:=cV v) (e:=cQ v) (t:=t) k;by_cases cl:1<=e.kind/\e.kind<=4
 ·rw[qW,if_pos cl];have e1:=nh v.p.en e.name;rw[eq_true hE]at e1;obtain c1|c1|c1|c1:e.kind=1\/e.kind=2\/e.kind=3\/e.kind=4:=by omega
  all_goals(refine aq (A9 @jE.eq_1 @U1.eq_1 (ag e) c1 e1 gN' @oN.eq_1 @Bool.false_eq_true (A8 @List.append_assoc.{0} @Nat.add_zero @iG @yB @zt @pk @rV @dt)) (JJ ?_))
  all_goals exact⟨by simp[Mt,c1,tQ],_,_,rfl,rfl⟩
 rcases hM.small with hs|hs
 ·exact absurd hs cl
 ·omega
theorem ajW(N:Nat)(hA:g9 Tryz.prog 133 (pj N)):g9 Tryz.prog 133 (pj (N+1)):=by
 refine g9.mkN (ps:=[(97,xC)]) (hs:=[(69,GV N)]) ⟨cG,trivial⟩ ⟨XL N hA,trivial⟩ su (λ_=>rfl) (λ_ _ _=>rfl) λq c d hp v x k h1 h2 bG=> ?_;obtain⟨e,on⟩:=x;dsimp only at bG|-;have hM:=bG;have hE:=tR hM.x.1.1;have AG:=hM.x.self.1;have h17:=Vc hM.x.self.2;have hkr:=ni AG;have gN':∀t,(fY hp q c d v++t)[q]? =some (oN c d v):=λt=>yD (a:=oN c d v) (b:=cV v) (e:=cQ v) (t:=t) k;by_cases cl:1<=e.kind/\e.kind<=4
 ·rw[qW,if_pos cl];have e1:=nh v.p.en e.name;rw[eq_true hE]at e1;obtain c1|c1|c1|c1:e.kind=1\/e.kind=2\/e.kind=3\/e.kind=4:=by omega
  all_goals(refine aq (A9 @jE.eq_1 @U1.eq_1 (ag e) c1 e1 gN' @oN.eq_1 @Bool.false_eq_true (A8 @List.append_assoc.{0} @Nat.add_zero @iG @yB @zt @pk @rV @dt)) (JJ ?_))
  all_goals exact⟨by simp[Mt,c1,tQ],_,_,rfl,rfl⟩
 rw[qW,if_neg cl];have zS:(ax e).length<N+1:=by
  rcases hM.small with hs|hs
  ·exact absurd hs cl
  ·exact hs
 have e2:=λt=>Lj N (v:=v) (t:=t) k h1 h2 e none on;simp only[eq_true (show okM N v e on from⟨hM.x,hM.fit,zS,hM.on,hM.big⟩)]at e2;simp only[ag e,BQ]at e2;have hnn:(none:Option (List (List UInt8))).getD []=[]:=rfl;rw[hnn]at e2;generalize eX v.p v.i v.first e [] on v.st=B at*;obtain⟨B1,B2⟩:=B;dsimp only at e2|-;have m1:¬e.kind=1:=by omega
 have m2:¬e.kind=2:=by omega
 have m3:¬e.kind=3:=by omega
 have m4:¬e.kind=4:=by omega
 refine aq (A9 @jE.eq_1 @U1.eq_1 (ag e) e2 @List.append_assoc.{0} @Nat.add_zero @iG @yB (A2 @pk @dt)) (JJ (λhn hn hn hn=> ?_));all_goals exact⟨_,_,rfl,rfl⟩
theorem XM:∀N,g9 Tryz.prog 133 (pj N)
 |0=>ajV
 |N+1=>ajW N (XM N)
end Go.Proofs.YtcokmopocppmiaaGreat

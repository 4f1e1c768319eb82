/- Programs: their plain equations: the walk (21). -/
import Derived.Test.YtldnkkkooabaeaaGreatPgGe
set_option linter.all false
set_option maxRecDepth 20000
namespace Go.Proofs.YtldnkkkooabaeaaGreat
open Go.Nk
structure rVs where
 q:Nat
 p:fc
 i:Nat
 rest:Ab
 l:List tN
 n:Nat
def l_(x:rVs)(a:Ab)(B:List ae):Prop:=a=[.ptr x.q 1 0 0,.sl (x.l.map gG)]/\B[x.q]? =some ⟨.loc,10,[[.sl (x.p.en.map kF),.sl (x.p.nodes.map fe),.int .i64 x.i]++x.rest]⟩/\x.n=B.length
theorem asM:∀x y a B,l_ x a B->l_ y a B->x=y:=by
 rintro⟨q,⟨Y,n1⟩,i,r,l,n⟩ ⟨q',⟨e2,n2⟩,i',r',l',n'⟩ a B ⟨h1,h2,h3⟩ ⟨h4,h5,h6⟩
 dsimp only at h1 h2 h3 h4 h5 h6;rw[h1]at h4;injection h4 with g1 g2;injection g2 with g2 _;injection g1 with g1;injection g2 with g2;subst g1;have g3:l=l':=map_inj y9 _ _ g2;rw[h2]at h5;simp only[GB,ae.mk.injEq,DO,Cr,Bz,J.sl.injEq,J.int.injEq,Xv,Bt]at h5;obtain⟨k1,k2,k3,k4⟩:=h5;have k5:i=i':=by omega
 rw[map_inj sN _ _ k1,map_inj Jd _ _ k2,k5,k4,g3,h3,h6]
noncomputable def Ym:Ab->List ae->o9:=iY l_ (λx=>(bF x.p=true/\x.l.length<=60,.own x.n x.l.length 0 x.l.length)) λx B=>B++[⟨.aV,5,(x.l.map (varOf x.p x.i)).map eu⟩]
theorem afs{q:Nat}{p:fc}{i:Nat}{rest:Ab}{l:List tN}{B:List ae}(h:B[q]? =some ⟨.loc,10,[[.sl (p.en.map kF),.sl (p.nodes.map fe),.int .i64 i]++rest]⟩):
 Ym [.ptr q 1 0 0,.sl (l.map gG)] B=⟨bF p=true/\l.length<=60,.own B.length l.length 0 l.length,B++[⟨.aV,5,(l.map (varOf p i)).map eu⟩]⟩:=
 fh (x:=⟨q,p,i,rest,l,B.length⟩) asM ⟨rfl,h,rfl⟩
theorem asN:ez Tryz.prog 74 Ym:=by
 refine ez.Vq (ps:=[(75,A7)]) (I:=[]) ⟨fT,BB⟩ trivial aE5 (by rintro x a B ⟨rfl,_⟩;rfl) ?_
 rintro⟨q,p,i,rest,l,n⟩ a B ⟨rfl,hq,rfl⟩ ⟨hP,hl⟩
 dsimp only at hq hP hl|-;have hql:=(pc.1 hq).1;have gq:∀t,(B++t)[q]? =some ⟨.loc,10,[[.sl (p.en.map kF),.sl (p.nodes.map fe),.int .i64 i]++rest]⟩:=λt=>by rw[OR hql];exact hq
 have Y:∀s,A7 [.agg (cE p),.int .i64 i,.str s]=(True,.b9 [.sl (((dU p i s).getD []).map eD),.bool (dU p i s).isSome]):=λs=>by rw[vq,lU (show bF p=true/\(0:Int)<=i from⟨hP,by omega⟩),GC]
 refine ao @atP.eq_1 (JJ ?_);refine aj l (λk (o:List Va)=>⟨[(0,.ptr q 1 0 0),(1,.sl (l.map gG)),(5,.own B.length o.length 0 o.length),(6,.int .i64 k)],B++[⟨.aV,5,o.map eu⟩]⟩) (λk r o=>o.length=k/\o++r.map (varOf p i)=l.map (varOf p i)) [] trivial CT ⟨rfl,rfl⟩ (λk d r o dk U Z E=>?_) (λk o ek E=>?_)
 .obtain⟨r1,r2⟩:=E;have gd:=ag gG U;have e2:=Y d.name;have hv:varOf p i d=⟨d.name,d.ty.k,d.ty.e,d.ty.n,(dU p i d.name).getD []⟩:=rfl;rw[p0,hv]at r2;obtain⟨d1,⟨d2,d3,d4⟩,d5,d6⟩:=d;dsimp only at r2 e2;generalize (dU p i d1).getD []=row at*;generalize (dU p i d1).isSome=rb at*;refine sM (fj dk gd gq e2) (JJ ?_);exact⟨o++[⟨d1,d2,d3,d4,row⟩],(CF @IN.{0,0}),by simp[r1],by simpa using r2⟩
 .obtain⟨r1,r2⟩:=E;rw[DD,xz]at r2;refine ao (bV ek @r1) (JJ ?_);all_goals(rw[<-r2];done)
def RT(p:fc):Nat->List kY->List Fl
 |_,[]=>[]
 |j,n::r=>gQ p j n::RT p (j+1) r
theorem aw5(p:fc):m5 p=RT p 0 p.nodes:=by
 have:∀(l:List kY) (j:Nat),l.mapIdx (λk n=>gQ p (j+k) n)=RT p j l:=by
  intro l;induction l with
  |nil=>intro j;rfl
  |cons n l ih=>
   intro j;rw[List.mapIdx_cons,RT,<-ih (j+1)];congr 1;refine C2 (λf=>List.mapIdx f l) ?_;funext k n;rw[show j+(k+1)=j+1+k by omega]
 have h:=this p.nodes 0;rw[<-h];unfold m5;refine C2 (λf=>List.mapIdx f p.nodes) ?_;funext k n;rw[GL]
theorem akh{p:fc}(h:wX p=true):g9 p=fk:=by
 have h1:pq p=fk:=by simpa[wX]using h
 have h2:mi p=fk:=by
  by_cases c:mi p=fk
  .exact c
  .rw[aBI c]at h1;exact h1
 have h3:ke p=fk:=by
  by_cases c:ke p=fk
  .exact c
  .rw[aBF c]at h2;exact h2
 have h4:jv p=fk:=by
  by_cases c:jv p=fk
  .exact c
  .rw[aBf c]at h3;exact h3
 exact aBd h4
theorem aki{n:kY}(h:dA n=true):∀x∈n.eqs,∀s∈x.names,s.length<=100:=by
 simp only[dA,tV,ab,BE,ir]at h
 exactλx U s I=>(h.2 x U).2 s I
def oB(p:fc)(i:Nat)(f:B3)(R:Int)(nm:B3)(il ol vl aCf:Nat):ae:=⟨.loc,10,[[.sl (p.en.map kF),.sl (p.nodes.map fe),.int .i64 i,.str f,.int .i64 R,.str nm,.own 5 il 0 il,.own 6 ol 0 ol,.own 7 vl 0 vl,.own 8 aCf 0 aCf]]⟩
theorem aw6{o0 o1 o2 o3 oi oo:ae}{p:fc}{i:Nat}{f nm:B3}{il ol:Nat}{st:Em}(e:Ex)(names:BS)(on:List gT)(h:GF 300 ⟨p,i,f,nm,5,il,6,ol,st⟩ e on):
 Je 300 [.ptr 4 1 0 0,.agg (cO e),.sl (cW names),.sl (on.map eD)] [o0,o1,o2,o3,oB p i f st.R nm il ol st.vs.length st.qs.length,oi,oo,⟨.aV,5,st.vs.map eu⟩,⟨.aV,10,st.qs.map iK⟩]=
  ⟨True,.str (fS p i f e names on st).1,[o0,o1,o2,o3,oB p i f (fS p i f e names on st).2.R nm il ol (fS p i f e names on st).2.vs.length (fS p i f e names on st).2.qs.length,oi,oo,⟨.aV,5,(fS p i f e names on st).2.vs.map eu⟩,⟨.aV,10,(fS p i f e names on st).2.qs.map iK⟩]⟩:=by
 have k:Ub [o0,o1,o2,o3,oB p i f st.R nm il ol st.vs.length st.qs.length,oi,oo,⟨.aV,5,st.vs.map eu⟩,⟨.aV,10,st.qs.map iK⟩] 4 7 8:=⟨by simp,by simp,by simp,by decide,by decide,by decide⟩;have:=aCe 300 (v:=⟨p,i,f,nm,5,il,6,ol,st⟩) (t:=[]) k (by simp) (by simp) e (some names) on;rw[lU h]at this;exact this
theorem abn(p:fc):wX p=decide (pq p=fk):=rfl
theorem n_{p:fc}{j:Nat}{l:List tN}(h:bF p=true/\l.length<=60)(o0 o1 o2 o3:ae)(t:List ae):
 Ym [.ptr 4 1 0 0,.sl (l.map gG)] (o0::o1::o2::o3::⟨.loc,10,[[.sl (p.en.map kF),.sl (p.nodes.map fe),.int .i64 j,.str [],.int .i64 0,.str [],.nil,.nil,.nil,.nil]]⟩::t)=
  ⟨True,.own (t.length+5) l.length 0 l.length,o0::o1::o2::o3::⟨.loc,10,[[.sl (p.en.map kF),.sl (p.nodes.map fe),.int .i64 j,.str [],.int .i64 0,.str [],.nil,.nil,.nil,.nil]]⟩::(t++[⟨.aV,5,(l.map (varOf p j)).map eu⟩])⟩:=by
 have:=afs (q:=4) (p:=p) (i:=j) (rest:=[.str [],.int .i64 0,.str [],.nil,.nil,.nil,.nil]) (l:=l) (B:=o0::o1::o2::o3::⟨.loc,10,[[.sl (p.en.map kF),.sl (p.nodes.map fe),.int .i64 j,.str [],.int .i64 0,.str [],.nil,.nil,.nil,.nil]]⟩::t) rfl;rw[lU h]at this;exact this
theorem LQ(k:BI)(l:List ae)(x:ae):RB k l (l++[x]):=λh hl _=>OR hl
theorem az6(a b c d e f:ae):RB (some 4) [a,b,c,d,e] [a,b,c,d,e,f]=True:=lU (LQ _ [a,b,c,d,e] f)
theorem az7(a b c d e f g:ae):RB (some 4) [a,b,c,d,e,f] [a,b,c,d,e,f,g]=True:=lU (LQ _ [a,b,c,d,e,f] g)
theorem az8(a b c d e f g h:ae):RB (some 4) [a,b,c,d,e,f,g] [a,b,c,d,e,f,g,h]=True:=lU (LQ _ [a,b,c,d,e,f,g] h)
noncomputable def LP:Ab->Prop×J:=bJ bA λp=>(bF p=true,.b9 [.agg (cD (if wX p then⟨p.en,m5 p⟩else⟨[],[]⟩)),.bool (wX p)])
theorem aJs(p:fc):LP [.agg (cE p)]=(bF p=true,.b9 [.agg (cD (if wX p then⟨p.en,m5 p⟩else⟨[],[]⟩)),.bool (wX p)]):=aI dY _ p
set_option maxHeartbeats 2000000 in
theorem afr:aJ Tryz.prog 45 LP:=by
 refine aJ.mS (ps:=[(73,RC),(75,A7)]) (I:=[(74,Ym),(76,Je 300)]) ⟨aJm,fT,BB⟩ ⟨asN,abo 300 (abp 300),BB⟩ aEH λp h=>?_;dsimp only;have hP:bF p=true:=h;have Y:=abq p;rw[lU hP]at Y;obtain⟨Ua,zR⟩:=fE hP;by_cases c1:pq p=fk;rotate_left
 .have Z:decide (pq p=fk)=false:=Z7 c1;rw[abn,Z];generalize pq p=f at*;exact ao (fF @pw.eq_1 @bA.eq_1 Y @O1 Z) zz;all_goals rfl
 have Z:decide (pq p=fk)=true:=ON c1;have o_:wX p=true:=by rw[abn,Z]
 rw[o_,gr rfl,aw5];have hS:=akh o_;have aEc:=_j o_;have e8:∀(i:Nat) (s:B3),A7 [.agg (cE p),.int .i64 i,.str s]=(True,.b9 [.sl (((dU p i s).getD []).map eD),.bool (dU p i s).isSome]):=λi s=>by rw[vq,lU (show bF p=true/\(0:Int)<=i from⟨hP,by omega⟩),GC]
 generalize pq p=f at*;refine ao (fF @pw.eq_1 @bA.eq_1 Y @O1 Z) (JJ ?_);refine sV ?_;refine ao trivial (JJ ?_);refine aj p.nodes (λj (fs:List Fl)=>⟨[(1,.ref (cE p)),(2,.ptr 0 1 0 0),(4,.ptr 1 1 0 0),(5,.int .i64 j)],[⟨.loc,2,[[.nil,.nil]]⟩,⟨.loc,2,[[.sl (p.en.map kF),.own 2 fs.length 0 fs.length]]⟩,⟨.aV,5,fs.map lf⟩]⟩) (λj r fs=>fs.length=j/\fs++RT p j r=RT p 0 p.nodes) [] (by decide) CT ⟨rfl,rfl⟩ (λj n r fs d U Z E=>?_) (λj fs e E=>?_);rotate_left
 .obtain⟨r1,r2⟩:=E;rw[RT,xz]at r2;have ht:(fs.map lf).take p.nodes.length=fs.map lf:=vc (by simp;omega);refine ao (cL e @r1 ht) (JJ ?_);all_goals(rw[<-r2];done)
 obtain⟨r1,r2⟩:=E;rw[RT]at r2;have Uc:=zR n (ed U);have gn:=ag fe U;have hN:=_l aEc U;obtain⟨l1,l2,l3,l4,_,l6⟩:=dz Uc;have aEd:=aki Uc;have ev1:=n_ (p:=p) (j:=j) (l:=n.ins) ⟨hP,by omega⟩;have xn:=n_ (p:=p) (j:=j) (l:=n.outs) ⟨hP,by omega⟩;have ev3:=n_ (p:=p) (j:=j) (l:=n.vars) ⟨hP,by omega⟩;refine ao (tM d gn ev1 xn ev3 @az6 @az7 @az8) (JJ ?_);refine sV ?_;refine ao trivial (JJ ?_);generalize FI:(n.ins.map (varOf p j))=Tq at*;generalize avg:(n.outs.map (varOf p j))=Tu at*;have lx:(n.vars.map (varOf p j)).length=n.vars.length:=by simp
 refine aj n.eqs (λk (x:B3×Em)=>⟨[(1,.ref (cE p)),(2,.ptr 0 1 0 0),(4,.ptr 1 1 0 0),(5,.int .i64 j),(6,.ptr 3 1 0 0),(7,.ptr 4 1 0 0),(8,.int .i64 k)],
  [⟨.loc,2,[[.nil,.nil]]⟩,⟨.loc,2,[[.sl (p.en.map kF),.own 2 fs.length 0 fs.length]]⟩,⟨.aV,5,fs.map lf⟩,⟨.loc,5,[fe n]⟩,oB p j x.1 x.2.R n.name n.ins.length n.outs.length x.2.vs.length x.2.qs.length,⟨.aV,5,Tq.map eu⟩,⟨.aV,5,Tu.map eu⟩,⟨.aV,5,x.2.vs.map eu⟩,⟨.aV,10,x.2.qs.map iK⟩]⟩)
  (λk r x=>r.foldl (xZ p j) x.2=O9 p j n/\x.2.vs.length<=20+600*k/\x.2.qs.length<=600*k) ([],⟨0,n.vars.map (varOf p j),[]⟩) (by decide) (CF (bV @oB.eq_1 lx)) ⟨rfl,by simp;omega,by simp⟩ (λk x r y dk US Q3 hq=>?_) (λk y ek hq=>?_)
 .obtain⟨f0,st⟩:=y;obtain⟨q1,q2,q3⟩:=hq;dsimp only at q1 q2 q3;rw[S2]at q1;have UT:=ed US;have hQ1:=ahT hP hS U UT;obtain⟨⟨hX,_N⟩,vR⟩:=hQ1;have zQ:=hN.cl x UT;have uJ:ep p j x.e ((dU p j (x.names.getD 0 [])).getD [])=true:=by simp only[LR,ab]at zQ;exact zQ.2
  have Mt:=uI (p:=p) (i:=j) (s:=x.names.getD 0 []);have WZ:=lZ (l6 x UT).2;have wJ:(x.names.getD 0 []).length<=100:=aEd x UT _ (ed (by rw[BY,tx vR];rfl));have ea:=aw6 (o0:=⟨.loc,2,[[.nil,.nil]]⟩) (o1:=⟨.loc,2,[[.sl (p.en.map kF),.own 2 fs.length 0 fs.length]]⟩) (o2:=⟨.aV,5,fs.map lf⟩) (o3:=⟨.loc,5,[fe n]⟩) (oi:=⟨.aV,5,Tq.map eu⟩) (oo:=⟨.aV,5,Tu.map eu⟩)
   (p:=p) (i:=j) (f:=x.names.getD 0 []) (nm:=n.name) (il:=n.ins.length) (ol:=n.outs.length) (st:=⟨0,st.vs,st.qs⟩) x.e x.names ((dU p j (x.names.getD 0 [])).getD [])
   ⟨hX,uJ,by omega,by omega,by dsimp only;omega,by dsimp only;omega,by dsimp only;omega,by dsimp only;omega,by dsimp only;omega⟩
  have Ee:=Rc (p:=p) (node:=j) (first:=x.names.getD 0 []) x.e x.names ((dU p j (x.names.getD 0 [])).getD []) ⟨0,st.vs,st.qs⟩;have Hg:xZ p j st x=(fS p j (x.names.getD 0 []) x.e x.names ((dU p j (x.names.getD 0 [])).getD []) ⟨0,st.vs,st.qs⟩).2:=rfl;rw[Hg]at q1;have e9:=e8 j (x.names.getD 0 []);have gx:=ag me US;have g0:(cW x.names).getD 0 []=[.str (x.names.getD 0 [])]:=fN (by rw[BY,tx vR];rfl);have aEg:(0:Int)<x.names.length:=by omega
  generalize (dU p j (x.names.getD 0 [])).getD []=row at*;generalize (dU p j (x.names.getD 0 [])).isSome=rb at*;generalize x.names.getD 0 []=nm0 at*;generalize fS p j nm0 x.e x.names row ⟨0,st.vs,st.qs⟩=BQ at*;obtain⟨B1,B2⟩:=BQ;dsimp only at q1 Ee ea;simp only[ai x.e,oB]at ea;refine ao (tM @ak @oB.eq_1 dk gx g0 aEg e9 ea) (JJ ?_);have g1:=Ee.vs;have g2:=Ee.qs;dsimp only at g1 g2;exact⟨(nm0,B2),CT,q1,by dsimp only;omega,by dsimp only;omega⟩
 .obtain⟨f0,st⟩:=y;obtain⟨q1,q2,q3⟩:=hq;dsimp only at q1 q2 q3;have q1:st=O9 p j n:=q1;have PH:gQ p j n=⟨n.name,Tq,Tu,st.vs,st.qs⟩:=by rw[q1,<-FI,<-avg];rfl
  have Hb:Tq.length=n.ins.length:=by rw[<-FI];simp
  have ED:Tu.length=n.outs.length:=by rw[<-avg];simp
  have t1:List.take n.ins.length (Tq.map eu)=Tq.map eu:=vc (by simp;omega);have t2:List.take n.outs.length (Tu.map eu)=Tu.map eu:=vc (by simp;omega);have t3:List.take st.vs.length (st.vs.map eu)=st.vs.map eu:=vc (by simp);have t4:List.take st.qs.length (st.qs.map iK)=st.qs.map iK:=vc (by simp);have VK:fs.map lf++[[.str n.name,.sl (Tq.map eu),.sl (Tu.map eu),.sl (st.vs.map eu),.sl (st.qs.map iK)]]=(fs++[gQ p j n]).map lf:=by rw[PH];simp
  refine ao (ey @oB.eq_1 ek t1 t2 t3 t4 Hb ED @By) (JJ ?_);all_goals first
   |exact⟨fs++[gQ p j n],(CF @VK),by simp[r1],by rw[AT];exact r2⟩
end Go.Proofs.YtldnkkkooabaeaaGreat

/- Machines: what they are, keep, and have made; whether inputs are right (26). -/
import Derived.Test.YtldnkkkooabaeaaGreatXcG
set_option maxHeartbeats 8000000
set_option linter.all false
set_option maxRecDepth 20000
namespace Go.Proofs.YtldnkkkooabaeaaGreat
open Go.Nk
theorem awo:Rh (λ_:Unit=>([]:Ab)) (λ_=>[]):=λ_ _ _ _=>rfl
def u9(l:cT)(at_:Int)(env:aP):Bd:=(ad l at_).outs.map λd=>dT env d.name
noncomputable def amB:=Qz (λ_:Unit=>[]) (λ_=>[]) λX=>(FF X.r.l X.at_/\(ad X.r.l X.at_).outs.length<=1000/\∀y∈u9 X.r.l X.at_ X.env,y.length<=1000,.sl ((u9 X.r.l X.at_ X.env).map cy))
theorem aar{B}{p m}{r:Mr}{at_}{ah}{env}(h:B[m]? =some (gh env))(h1:B[p]? =some (oM r))(h2:B[r.c]? =some (oC r.l))(ho:FF r.l at_/\(ad r.l at_).outs.length<=1000/\∀y∈u9 r.l at_ env,y.length<=1000):
 amB [.agg [.ptr p 1 0 0,.int .i64 at_,.str ah,.mp m]] B=⟨True,.sl ((u9 r.l at_ env).map cy),B⟩:=by
 have:=amt (p:=p) (r:=r) (at_:=at_) (ah:=ah) awo (λX=>(FF X.r.l X.at_/\(ad X.r.l X.at_).outs.length<=1000/\∀y∈u9 X.r.l X.at_ X.env,y.length<=1000,J.sl ((u9 X.r.l X.at_ X.env).map cy))) h h1 h2 ();rw[lU ho]at this;exact this
theorem am3:ez Tryz.prog 37 amB:=by
 refine ez.awp (ps:=[(28,Nw)]) (I:=[]) ⟨Li,BB⟩ trivial aEv (λ_=>rfl) (λ_ _=>rfl) λX B g gp gc h=>?_;obtain⟨p,r,at_,ah,m,env,u⟩:=X;obtain⟨hV,h1,h2⟩:=h;dsimp only at g gp gc hV h1 h2|-;obtain⟨cg,cl⟩:=yz hV.2.1 hV.2.2;have FG:=hV.2;have zQ:=nI r.l;have mQ:u9 r.l at_ env=(ad r.l at_).outs.map λd=>dT env d.name:=rfl;rw[mQ]at h2|-;obtain⟨l,c,o,k,st⟩:=r;dsimp only at cg cl FG h1 h2 zQ gp gc|-;simp only[E1]at cg;generalize qy (lg (ad l at_))=BQ at*;generalize aQ l at_=S at*;generalize ad l at_=f at*;obtain⟨fM,ie,cM,fvars,fG⟩:=f;dsimp only at h1 h2 cg|-;refine sM (rO @atw.eq_1 gp gc FG cg cl zQ) (JJ ?_);refine aj cM (λj (x:Bd×List ae)=>⟨[(1,.ptr B.length 1 0 0),(3,.own (B.length+1) x.1.length 0 x.1.length),(16,.sl (cM.map eu)),(17,.int .i64 cM.length),(18,.int .i64 j)],B++(⟨.loc,4,[Nx p at_ ah m]⟩::⟨.aV,1,x.1.map cy⟩::x.2)⟩)
  (λj r x=>x.1++r.map (λd=>dT env d.name)=cM.map (λd=>dT env d.name)/\x.1.length<=j) ([],[]) trivial CT ⟨rfl,By _⟩ (λj x r o d U Z E=>?_) (λj o ej E=>?_)
 .obtain⟨o,G⟩:=o;obtain⟨r1,r2⟩:=E;dsimp only at r1 r2;rw[p0]at r1;have gx:=ag eu U;have hv:=h2 _ (It.2 ⟨x,ed U,rfl⟩);have Y:=yA (dT env x.name);rw[lU (show(dT env x.name).length<=1000000 by omega)]at Y;obtain⟨vn,vk,ve,vl,hr⟩:=x;dsimp only at Y r1;refine sM (ey d gx g @asj @am4 @C3.{0,0} @kH Y @QH) (JJ ?_);all_goals exact⟨(o++[dT env vn],_),CT,by simp_all,by simp;omega⟩
 .obtain⟨o,G⟩:=o;obtain⟨r1,r2⟩:=E;dsimp only at r1 r2;rw[DD,xz]at r1;rw[<-r1];refine sM (bV ej @aas) (JJ ?_);simp_all
structure Mx where
 p:Nat
 r:Mr
 K:aP
structure yq(B:List ae)(x:Mx):Prop where
 p:B[x.p]? =some (oM x.r)
 c:B[x.r.c]? =some (oC x.r.l)
 o:B[x.r.o]? =some ⟨.aV,1,cW (mN x.r.l)⟩
 k:B[x.r.k]? =some (gh x.K)
theorem yq.u{B}{x y:Mx}(h:yq B x)(h':yq B y)(e:x.p=y.p):x=y:=by obtain⟨p,r,K⟩:=x;obtain⟨p',r',K'⟩:=y;dsimp only at e;subst e;have Y:=XE (abc (h.p.symm.trans h'.p));dsimp only at Y;subst Y;have e:=PM (abc (h.k.symm.trans h'.k));simp_all
def MR{α:Type}(args:α->Ab)(X:Mx×α)(a:Ab)(B:List ae):Prop:=a= .ptr X.1.p 1 0 0::args X.2/\yq B X.1
theorem MR.u{α}{args:α->Ab}(ha:tP args):∀(X Cp:Mx×α) (a:Ab) (B:List ae),MR args X a B->MR args Cp a B->X=Cp:=by
 rintro⟨x,a⟩ ⟨y,b⟩ _ B ⟨rfl,h1⟩ ⟨h,h2⟩
 simp only[DO,J.ptr.injEq,Xv]at h;exact Prod.ext (yq.u h1 h2 h.1) (ha _ _ h.2)
noncomputable def IA{α:Type}(args:α->Ab)(f:Mx×α->Prop×J)(out:Mx×α->List ae->List ae):Ab->List ae->o9:=iY (MR args) f out
theorem yB{α}{args:α->Ab}(ha:tP args)(f:Mx×α->Prop×J)(out:Mx×α->List ae->List ae){B}{x:Mx}(h:yq B x)(a:α):IA args f out (.ptr x.p 1 0 0::args a) B=⟨(f (x,a)).1,(f (x,a)).2,out (x,a) B⟩:=
 fh (MR.u ha) (x:=(x,a)) ⟨rfl,h⟩
theorem ez.wS{ps I}{fn}{d:ay}{N}{α}{args:α->Ab}{f:Mx×α->Prop×J}(h1:sf Tryz.prog ps)(h2:si Tryz.prog I)(hm:mT Tryz.prog fn N d=true)(hN:∀x,(args x).length+1=N)(hb:∀X n,((f X).2).qA n=true)
 (k:∀(x:Mx) (a:α) (B:List ae),(∀t,yq (B++t) x)->(f (x,a)).1->
  gP (dJ.of ps I) B.length d.code (λe s=>(match e with| .exit _=>False|_=>(aS s d.res).1/\(aS s d.res).2=(f (x,a)).2/\∃t,s.B=B++t)) ⟨(0,.ptr x.p 1 0 0)::aO 1 (args a),B++[]⟩):ez Tryz.prog fn (IA args f λ_ B=>B):=by
 refine ez.I0 h1 h2 hm (λx a B h=>by rw[h.1,IS,hN]) λX a B h lO=>?_;obtain⟨x,b⟩:=X;obtain⟨rfl,g⟩:=h;have ap:∀{i:Nat} {o:ae},B[i]? =some o->∀t,(B++t)[i]? =some o:=λe t=>by grind
 have:=k x b B (λt=>⟨ap g.p t,ap g.c t,ap g.o t,ap g.k t⟩) lO;rw[xz]at this;refine yC (λe s hq=>?_) this;have key:((aS s d.res).1/\(aS s d.res).2=(f (x,b)).2/\∃t,s.B=B++t)->((aS s d.res).1/\(aS s d.res).2=(f (x,b)).2/\((f (x,b)).2).qA B.length=true/\B.length=B.length/\(∃t,s.B=B++t)/\∀(i:Nat) (o:ae),B[i]? =some o->B[i]? =some o\/o.cut B.length=o):=λ⟨q1,q2,q3⟩=>⟨q1,q2,hb _ _,rfl,q3,λi o h=> .inl h⟩;cases e with
 |normal=>exact key hq
 |exit id=>exact hq.elim
 |ret=>exact key hq
noncomputable def QJ:=IA (λ_:Unit=>[]) (λX=>(True,.bool (decide (0<X.1.r.l.fs.length)))) λ_ B=>B
theorem amC{B:List ae}{x:Mx}(h:yq B x):QJ [.ptr x.p 1 0 0] B=⟨True,.bool (decide (0<x.r.l.fs.length)),B⟩:=yB QL _ _ h ()
theorem XG:ez Tryz.prog 27 QJ:=by
 refine ez.wS (ps:=[]) (I:=[]) trivial trivial aEp (λ_=>rfl) (λ_ _=>rfl) λx a B g h=>?_;obtain⟨p,⟨l,c,o,k,st⟩,K⟩:=x;have gp:=λt=>(g t).p;have gc:=λt=>(g t).c;have zQ:=nI l;clear g;dsimp only at gp gc|-;by_cases c0:0<l.fs.length
 .refine ao (fF @qB.eq_1 gp gc c0 zQ) (JJ ?_);simp_all
 .refine ao (fF @qB.eq_1 gp gc c0 zQ) (JJ ?_);simp_all
noncomputable def IC:=IA (λ_:Unit=>[]) (λX=>(X.1.r.l.fs.length<=1000000,.int .i64 ((X.1.r.l.fs.length:Int)-1))) λ_ B=>B
theorem amD{B}{x:Mx}(h:yq B x)(hl:x.r.l.fs.length<=1000000):IC [.ptr x.p 1 0 0] B=⟨True,.int .i64 ((x.r.l.fs.length:Int)-1),B⟩:=by have:=yB QL (λX=>(X.1.r.l.fs.length<=1000000,J.int .i64 ((X.1.r.l.fs.length:Int)-1))) (λ_ B=>B) h ();rw[lU (show x.r.l.fs.length<=1000000 from hl)]at this;exact this
theorem aat:ez Tryz.prog 30 IC:=by refine ez.wS (ps:=[]) (I:=[]) trivial trivial aEr (λ_=>rfl) (λ_ _=>rfl) λx a B g h=>?_;obtain⟨p,⟨l,c,o,k,st⟩,K⟩:=x;have gp:=λt=>(g t).p;have gc:=λt=>(g t).c;have zQ:=nI l;clear g;dsimp only at gp gc h|-;have hw:IntKind.i64.wrap ((l.fs.length:Int)-1)=(l.fs.length:Int)-1:=df (by omega);refine ao (fF @att.eq_1 gp gc hw zQ) (JJ ?_);simp_all
noncomputable def am5:=iY (λ(x:Mx) a B=>a=[.ptr x.p 1 0 5]/\yq B x) (λx=>(True,.int .i64 x.r.steps)) λ_ B=>B
theorem am6{B}{x:Mx}(h:yq B x):am5 [.ptr x.p 1 0 5] B=⟨True,.int .i64 x.r.steps,B⟩:=by
 refine fh (x:=x) ?_ ⟨rfl,h⟩
 rintro x y a B ⟨rfl,h1⟩ ⟨h,h2⟩
 simp only[DO,J.ptr.injEq,Xv]at h;exact yq.u h1 h2 h
theorem awq:ez Tryz.prog 39 am5:=by refine ez.I0 (ps:=[]) (I:=[]) trivial trivial aEx (λx a B h=>by rw[h.1];rfl) (λx a B h _=>?_);obtain⟨p,⟨l,c,o,k,st⟩,K⟩:=x;obtain⟨rfl,g⟩:=h;have gp:=g.p;dsimp only at gp|-;refine ao (bV @atx.eq_1 gp) (JJ ?_);simp_all
noncomputable def mM:=IA (λ_:Unit=>[]) (λX=>(0<X.1.r.l.fs.length,.int .i64 X.1.r.steps)) λ_ B=>B
theorem aKh{B}{x:Mx}(h:yq B x)(hl:0<x.r.l.fs.length):mM [.ptr x.p 1 0 0] B=⟨True,.int .i64 x.r.steps,B⟩:=by have:=yB QL (λX=>(0<X.1.r.l.fs.length,J.int .i64 X.1.r.steps)) (λ_ B=>B) h ();rw[lU (show 0<x.r.l.fs.length from hl)]at this;exact this
theorem amE:ez Tryz.prog 14 mM:=by refine ez.wS (ps:=[]) (I:=[(27,QJ),(39,am5)]) trivial ⟨XG,awq,BB⟩ aEa (λ_=>rfl) (λ_ _=>rfl) λx a B g h=>?_;obtain⟨p,⟨l,c,o,k,st⟩,K⟩:=x;have gp:=λt=>(g t).p;have Y:=λt=>amC (g t);have e2:=λt=>am6 (g t);clear g;dsimp only at gp h Y e2|-;rw[ON h]at Y;refine ao (fj @atn.eq_1 gp Y e2) (JJ ?_);simp_all
def b7(l:cT)(K:aP):List cG:=(mN l).map λp=>⟨p,dT K p⟩
def Qw(l:cT)(K:aP):Prop:=0<l.fs.length/\(mN l).length<=1000/\∀c∈b7 l K,c.dK.length<=1000
noncomputable def zU:=IA (λ_:Unit=>[]) (λX=>(Qw X.1.r.l X.1.K,.sl ((b7 X.1.r.l X.1.K).map bf))) λ_ B=>B
theorem aej{B}{x:Mx}(h:yq B x)(hl:Qw x.r.l x.K):zU [.ptr x.p 1 0 0] B=⟨True,.sl ((b7 x.r.l x.K).map bf),B⟩:=by have:=yB QL (λX=>(Qw X.1.r.l X.1.K,J.sl ((b7 X.1.r.l X.1.K).map bf))) (λ_ B=>B) h ();rw[lU (show Qw x.r.l x.K from hl)]at this;exact this
theorem aad:ez Tryz.prog 8 zU:=by
 refine ez.wS (ps:=[(28,Nw)]) (I:=[(27,QJ)]) ⟨Li,BB⟩ ⟨XG,BB⟩ aD3 (λ_=>rfl) (λ_ _=>rfl) λx a B g h=>?_;obtain⟨p,⟨l,c,o,k,st⟩,K⟩:=x;obtain⟨h1,h2,h3⟩:=h;have gp:=λt=>(g t).p;have go:=λt=>(g t).o;have gk:=λt=>(g t).k;have Y:=λt=>amC (g t);clear g;dsimp only at gp go gk h1 h2 h3 Y|-;rw[ON h1]at Y;have mQ:b7 l K=(mN l).map λp=>(⟨p,dT K p⟩:cG):=rfl;rw[mQ]at h3|-;refine sM (fF @atk.eq_1 @ak gp go Y) (JJ ?_);refine aj (mN l) (λj (x:List cG)=>⟨[(0,.ptr p 1 0 0),(3,.own B.length x.length 0 x.length),(12,.own o (mN l).length 0 (mN l).length),(13,.int .i64 (mN l).length),(14,.int .i64 j)],B++[⟨.aV,2,x.map bf⟩]⟩)
  (λj r x=>x++r.map (λp=>(⟨p,dT K p⟩:cG))=(mN l).map (λp=>⟨p,dT K p⟩)/\x.length<=j) [] trivial CT ⟨rfl,By _⟩ (λj s r x d U Z E=>?_) (λj x ej E=>?_)
 .obtain⟨r1,r2⟩:=E;rw[p0]at r1;have gs:=fN U;have hv:(dT K s).length<=1000:=h3 ⟨s,dT K s⟩ (It.2 ⟨s,ed U,rfl⟩);have e2:=yA (dT K s);rw[lU (show(dT K s).length<=1000000 by omega)]at e2;refine sM (ey @ak d gs gp go gk e2 @C3.{0,0} @kH) (JJ ?_);all_goals exact⟨x++[⟨s,dT K s⟩],(CF @IN.{0,0}),by simp_all,by simp;omega⟩
 .obtain⟨r1,r2⟩:=E;rw[DD,xz]at r1;rw[<-r1];have tk:(x.map bf).take x.length=x.map bf:=vc (by simp);refine sM (bV ej tk) (JJ ?_);simp_all
section
variable {B g t:List ae} {m:Nat} {o o' a b c x y:ae}
theorem awr:(one B m x++(g++(o::t)))[B.length+g.length]? =some o:=by simp_all[IF,one]
theorem aws:(one B m x++(g++(o::t))).set (B.length+g.length) o'=one B m x++(g++(o'::t)):=by simp_all[aab,one]
theorem am7:(one B m x++(a::b::o::t)).set (B.length+2) o'=one B m x++(a::b::o'::t):=by simp_all[aab,one]
theorem awt:(one B m x++(a::b::c::(g++(o::t))))[B.length+(g.length+3)]? =some o:=by simp_all[IF,one]
theorem awu:(one B m x++(a::b::c::(g++(o::t)))).set (B.length+(g.length+3)) o'=one B m x++(a::b::c::(g++(o'::t))):=by simp_all[aab,one]
end
theorem yq.ne{B:List ae}{x:Mx}(h:yq B x):x.p≠x.r.k/\x.r.c≠x.r.k/\x.r.o≠x.r.k/\x.r.c≠x.p/\x.r.o≠x.p/\x.r.k<B.length/\x.p<B.length:=by
 have MA:∀{i j:Nat} {o o':ae},B[i]? =some o->B[j]? =some o'->o.k≠o'.k->i≠j:=λhi hj hk=>by grind
 exact⟨MA h.p h.k (by simp),MA h.c h.k (by simp),MA h.o h.k (by simp),MA h.c h.p (by simp),MA h.o h.p (by simp),(pc.1 h.k).1,(pc.1 h.p).1⟩
theorem yq.one{B}{x:Mx}(h:yq B x)(K)(t):yq (one B x.r.k (gh K)++t) ⟨x.p,x.r,K⟩:=by
 obtain⟨n1,n2,n3,n4,n5,n6,n7⟩:=h.ne;have ap:∀{i:Nat} {o:ae},B[i]? =some o->i≠x.r.k->(Nk.one B x.r.k (gh K)++t)[i]? =some o:=λ{i o} e bP=>by unfold Nk.one;grind
 exact⟨ap h.p n1,ap h.c n2,ap h.o n3,asm n6⟩
theorem aDe{B}{x:Mx}(h:yq B x)(hl:0<x.r.l.fs.length):QJ [.ptr x.p 1 0 0] B=⟨True,.bool true,B⟩:=by rw[amC h,ON hl]
def XH(l:cT)(c:List cG):Prop:=PG l/\kE c/\0<l.fs.length
def ax(l:cT):Int:=(l.fs.length:Int)-1
theorem aDf:tP (λc:List cG=>[J.sl (c.map bf)]):=λx y h=>by simp only[DO,J.sl.injEq,Xv]at h;exact map_inj s8 x y h
def AY(l:cT)(c:List cG)(K:aP):aP:=if fI l (ax l) c then dZ c [] K else K
noncomputable def PD:=IA (λc:List cG=>[.sl (c.map bf)]) (λX=>(XH X.1.r.l X.2,.bool (fI X.1.r.l (ax X.1.r.l) X.2))) λX B=>one B X.1.r.k (gh (AY X.1.r.l X.2 X.1.K))
theorem ael{B}{x:Mx}(h:yq B x)(c:List cG)(ho:XH x.r.l c):PD [.ptr x.p 1 0 0,.sl (c.map bf)] B=⟨True,.bool (fI x.r.l (ax x.r.l) c),one B x.r.k (gh (AY x.r.l c x.K))⟩:=by have:=yB aDf (λX=>(XH X.1.r.l X.2,J.bool (fI X.1.r.l (ax X.1.r.l) X.2))) (λX B=>one B X.1.r.k (gh (AY X.1.r.l X.2 X.1.K))) h c;rw[lU (show XH x.r.l c from ho)]at this;exact this
theorem amS:ez Tryz.prog 18 PD:=by
 refine ez.I0 (ps:=[(28,Nw),(40,Le)]) (I:=[(27,QJ),(30,IC)]) ⟨Li,am8,BB⟩ ⟨XG,aat,BB⟩ aEh (λx a B h=>by rw[h.1];rfl) λX a B h lO=>?_;obtain⟨⟨p,⟨l,c,o,k,st⟩,K⟩,cs⟩:=X;obtain⟨rfl,g⟩:=h;obtain⟨hG,hM,hl⟩:=lO;dsimp only at hG hM hl|-;have x6:=hM.1;have PH:=hG.1.1.1.1;have Y:=λK t=>aDe (g.one K t) hl;have e2:=λK t=>amD (g.one K t) (by grind);have gp:=λK t=>(g.one K t).p;have gk:=λK t=>(g.one K t).k;have hk:=g.ne.2.2.2.2.2.1;have kh:∀(K1 K2:aP) t,(one B k (gh K1)++t).set k ⟨.mp (K2.map n8),0,[]⟩=one B k (gh K2)++t:=λK1 K2 t=>ahB hk;have h0:one B k (gh K)++[]=B:=by rw[xz];exact Qy g.k
 have e3:=akt l (ax l) cs;rw[lU (And.intro hG hM)]at e3;have hL:AY l cs K=if fI l (ax l) cs then dZ cs [] K else K:=rfl;rw[hL];clear g hL;dsimp only at Y e2 gp gk hk;unfold ax at e3|-;generalize fI l ((l.fs.length:Int)-1) cs=b at*;have oH:∀K',∀(i:Nat) (x:ae),(one B k (gh K'))[i]? =some x->B[i]? =some x\/x.cut B.length=x:=λK'=>Iy rfl;simp only[cD]at e3;rw[show(⟨aO 0 [.ptr p 1 0 0,.sl (cs.map bf)],B⟩:DS)=⟨aO 0 [.ptr p 1 0 0,.sl (cs.map bf)],one B k (gh K)++[]⟩ by rw[h0]];cases b
 .refine ao (jg @n9.eq_1 gp Y e2 e3 @z5) (JJ ?_);simp_all
 refine ao (fF @n9.eq_1 gp Y e2 e3) (JJ ?_);refine aj cs (λj (x:aP×List ae)=>⟨[(0,.ptr p 1 0 0),(21,.sl (cs.map bf)),(22,.int .i64 cs.length),(23,.int .i64 j)],one B k (gh x.1)++x.2⟩) (λj r x=>dZ r [] x.1=dZ cs [] K) (K,[]) trivial CT rfl (λj q r x d U Z E=>?_) (λj x e E=>?_)
 .obtain⟨K1,G⟩:=x;have gq:=ag bf U;obtain⟨v1,v2⟩:=hM.2 q (ed U);have e4:=yA q.dK;rw[lU (show q.dK.length<=1000000 by omega)]at e4;obtain⟨qp,qv⟩:=q;dsimp only at v1 v2 e4 E;have E:dZ r [] (jR qp qv K1)=dZ cs [] K:=E;refine sM (ey @z5 d gq @awr @aws gp gk e4 (cL @C3.{0,0} @lQ kh)) (JJ ?_);all_goals exact⟨(jR qp qv K1,_),CT,E⟩
 .obtain⟨K1,G⟩:=x;have E:K1=dZ cs [] K:=E;rw[<-E];refine ao (bV e @z5) (JJ ?_);grind
structure Ri(α:Type) where
 b:Nat
 p:Nat
 r:Mr
 x:α
def BM{α:Type}(B:List ae)(X:Ri α):Prop:=B[X.b]? =some ⟨.loc,1,[[.ptr X.p 1 0 0]]⟩/\B[X.p]? =some (oM X.r)
theorem BM.u{α}{B}{X Cp:Ri α}(h:BM B X)(h':BM B Cp)(hb:X.b=Cp.b)(U:X.x=Cp.x):X=Cp:=by obtain⟨b,p,r,x⟩:=X;obtain⟨b',p',r',x'⟩:=Cp;obtain⟨h1,h2⟩:=h;obtain⟨h3,h4⟩:=h';dsimp only at*;subst hb U;have:=abc (h1.symm.trans h3);simp only[ae.mk.injEq,DO,J.ptr.injEq,Bt,Xv]at this;grind[XE,abc]
noncomputable def amF:Ab->List ae->o9:=iY (λ(X:Ri (Va×Ba)) a B=>a=[.agg (eu X.x.1),.sl (cC X.x.2),.ptr X.b 1 0 0]/\BM B X) (λX=>(True,.bool (jo X.r.l.enums (z6 X.x.1) X.x.2))) λ_ B=>B
theorem aau{B}{b p}{r:Mr}(h1:B[b]? =some ⟨.loc,1,[[.ptr p 1 0 0]]⟩)(h2:B[p]? =some (oM r))(d:Va)(v):amF [.agg (eu d),.sl (cC v),.ptr b 1 0 0] B=⟨True,.bool (jo r.l.enums (z6 d) v),B⟩:=by
 have:=fh (f:=λX:Ri (Va×Ba)=>(True,J.bool (jo X.r.l.enums (z6 X.x.1) X.x.2))) (out:=λ_ B=>B) (r:=λ(X:Ri (Va×Ba)) a B=>a=[.agg (eu X.x.1),.sl (cC X.x.2),.ptr X.b 1 0 0]/\BM B X) ?_ (x:=⟨b,p,r,d,v⟩) ⟨rfl,h1,h2⟩
 .exact this
 .rintro X Cp a B ⟨rfl,h1⟩ ⟨h,h2⟩
  grind[BM.u,Prod.ext,oY,sO]
theorem ajw:ez Tryz.prog 31 amF:=by
 refine ez.I0 (ps:=[(32,yD)]) (I:=[]) ⟨aez,BB⟩ trivial aEs (λx a B h=>by rw[h.1];rfl) λX a B h lO=>?_;obtain⟨b,p,⟨⟨en,fs⟩,c,o,k,st⟩,⟨dn,dk,de,dl,Wk⟩,v⟩:=X;obtain⟨rfl,g1,g2⟩:=h;have ap:∀{i:Nat} {o:ae},B[i]? =some o->∀t,(B++t)[i]? =some o:=λe t=>by grind
 have gb:=ap g1;have gp:=ap g2;have e3:=aCR en ⟨dk,de,dl⟩ v;simp only[dE]at e3;try dsimp only at gb gp|-
 have iq:z6 ⟨dn,dk,de,dl,Wk⟩=⟨dk,de,dl⟩:=rfl;rw[iq];refine sM (fj @atu.eq_1 gb gp e3) (JJ ?_);simp_all
noncomputable def am9:Ab->List ae->o9:=iY (λ(X:Ri (List Va×Bd)) a B=>a=[.sl (X.x.1.map eu),.sl (X.x.2.map cy),.Bg 31 [.ptr X.b 1 0 0]]/\BM B X) (λX=>(X.x.1.length<=1000000/\Ux X.x.2,.bool (uy X.r.l.enums X.x.1 X.x.2))) λ_ B=>B
theorem ana{B}{b p}{r:Mr}(h1:B[b]? =some ⟨.loc,1,[[.ptr p 1 0 0]]⟩)(h2:B[p]? =some (oM r))(ds:List Va)(v:Bd)(ho:ds.length<=1000000/\Ux v):am9 [.sl (ds.map eu),.sl (v.map cy),.Bg 31 [.ptr b 1 0 0]] B=⟨True,.bool (uy r.l.enums ds v),B⟩:=by
 have:=fh (f:=λX:Ri (List Va×Bd)=>(X.x.1.length<=1000000/\Ux X.x.2,J.bool (uy X.r.l.enums X.x.1 X.x.2))) (out:=λ_ B=>B) (r:=λ(X:Ri (List Va×Bd)) a B=>a=[.sl (X.x.1.map eu),.sl (X.x.2.map cy),.Bg 31 [.ptr X.b 1 0 0]]/\BM B X) ?_ (x:=⟨b,p,r,ds,v⟩) ⟨rfl,h1,h2⟩
 .rw[lU (show ds.length<=1000000/\Ux v from ho)]at this;exact this
 .rintro X Cp a B ⟨rfl,h1⟩ ⟨h,h2⟩
  simp only[DO,J.sl.injEq,J.Bg.injEq,J.ptr.injEq,Bt,Xv]at h;exact BM.u h1 h2 h.2.2 (Prod.ext (map_inj oY _ _ h.1) (map_inj (λx y h=>by simp only[cy,DO,J.sl.injEq,Xv]at h;exact sO h) _ _ h.2.1))
theorem awv:ez Tryz.prog 33 am9:=by
 refine ez.I0 (ps:=[]) (I:=[(31,amF)]) trivial ⟨ajw,BB⟩ aEt (λx a B h=>by rw[h.1];rfl) λX a B h lO=>?_;obtain⟨bb,p,r,ds,v⟩:=X;obtain⟨rfl,g1,g2⟩:=h;obtain⟨h1,_⟩:=lO;have ap:∀{i:Nat} {o:ae},B[i]? =some o->∀t,(B++t)[i]? =some o:=λe t=>by grind
 have eR:=λ(d:Va) (v:Ba) t=>aau (ap g1 t) (ap g2 t) d v;dsimp only at h1 eR|-;generalize r.l.enums=en at*;clear g1 g2 ap;have hb:uy en ds v=(decide (ds.length=v.length)&&OL en ds v):=rfl;have BW:B=B++[]:=by simp
 by_cases c:ds.length=v.length;rotate_left
 .rw[Z7 c,C4]at hb;refine ao (bV @cI.eq_1 hb) (JJ (λhn=>?_));grind
 rw[ON c,Pd]at hb;refine ao (bV @cI.eq_1 c) (JJ ?_);refine aj ds (λj (G:List ae)=>⟨[(1,.sl (v.map cy)),(2,.Bg 31 [.ptr bb 1 0 0]),(15,.sl (ds.map eu)),(16,.int .i64 v.length),(17,.int .i64 j)],B++G⟩) (λj r _=>OL en r (v.drop j)=uy en ds v) [] trivial (CF @xz.{0}) (by rw[hb];rfl) (λj x r G d U Z E=>?_) (λj G e E=>?_)
 .obtain⟨y,hy,Hi⟩:=eE v (k:=j) (by omega);rw[Hi,OL]at E;have gx:=ag eu U;have gy:=ag cy hy;have e3:=eR x y;have OM:j<v.length:=by omega
  obtain⟨dn,dk,de,dl,Wk⟩:=x;simp only[eu]at e3;cases c5:jo en (z6 ⟨dn,dk,de,dl,Wk⟩) y
  .rw[c5]at e3 E;have E:=E.symm;refine sM (jg d gx gy OM e3 E) (JJ ?_);grind
  .rw[c5]at e3 E;refine sM (fF d gx gy OM e3) (JJ ?_);all_goals exact⟨_,CT,by grind⟩
 .have E:=E.symm;refine ao (cL e E c) (JJ ?_);grind
noncomputable def anb:=iY (λ(x:Mx) a B=>a=[.ptr x.p 1 0 5,.int .i64 1]/\yq B x) (λx=>(0<=x.r.steps/\x.r.steps<=1000,.int .i64 (x.r.steps+1))) λx B=>B.set x.p (oM ⟨x.r.l,x.r.c,x.r.o,x.r.k,x.r.steps+1⟩)
theorem anc{B:List ae}{x:Mx}(h:yq B x)(h1:0<=x.r.steps/\x.r.steps<=1000):anb [.ptr x.p 1 0 5,.int .i64 1] B=⟨True,.int .i64 (x.r.steps+1),B.set x.p (oM ⟨x.r.l,x.r.c,x.r.o,x.r.k,x.r.steps+1⟩)⟩:=by
 have:=fh (f:=λx:Mx=>(0<=x.r.steps/\x.r.steps<=1000,J.int .i64 (x.r.steps+1))) (out:=λ(x:Mx) B=>B.set x.p (oM ⟨x.r.l,x.r.c,x.r.o,x.r.k,x.r.steps+1⟩)) (r:=λ(x:Mx) a B=>a=[.ptr x.p 1 0 5,.int .i64 1]/\yq B x) ?_ (x:=x) ⟨rfl,h⟩
 .rw[lU h1]at this;exact this
 .rintro x y a B ⟨rfl,h1⟩ ⟨h,h2⟩
  simp only[DO,J.ptr.injEq,Xv]at h;exact yq.u h1 h2 h
theorem ane{r:Mr}{n}(h1:r.c<n)(h2:r.o<n)(h3:r.k<n):(oM r).cut n=oM r:=by simp[ae.cut,J.cut,J.qA,h1,h2,h3]
theorem yq.lt{B:List ae}{x:Mx}(h:yq B x):x.r.c<B.length/\x.r.o<B.length/\x.r.k<B.length/\x.p<B.length:=
 ⟨(pc.1 h.c).1,(pc.1 h.o).1,(pc.1 h.k).1,(pc.1 h.p).1⟩
def asn{B:List ae}{p}{o:ae}(h:o.cut B.length=o):=show∀(i:Nat) (x:ae),(B.set p o)[i]? =some x->B[i]? =some x\/x.cut B.length=_ from Iy h
theorem aww:ez Tryz.prog 36 anb:=by refine ez.I0 (ps:=[]) (I:=[]) trivial trivial aEu (λx a B h=>by rw[h.1];rfl) (λx a B h h1=>?_);obtain⟨p,⟨l,c,o,k,st⟩,K⟩:=x;obtain⟨rfl,g⟩:=h;obtain⟨h1,h2⟩:=h1;have gp:=g.p;obtain⟨n1,n2,n3,n4⟩:=g.lt;have oH:=asn (B:=B) (p:=p) (ane (r:=⟨l,c,o,k,st+1⟩) n1 n2 n3);dsimp only at gp h1 h2 oH|-;have hw:IntKind.i64.wrap (st+1)=st+1:=df (by omega);exact ao (fj @atv.eq_1 gp hw @VH.eq_def) zz;all_goals first|exact⟨⟨[],by simp⟩,oH⟩|exact oH
def X2(l:cT)(ins:Bd):aP:=bu ((ad l (ax l)).ins.map (·.name)) ins []
def ff(l:cT)(K:aP)(ins:Bd):(aP×aP)×Int:=aX l 11 (ax l) [] K (X2 l ins)
def zV(l:cT)(ins:Bd):Bool:=uy l.enums (ad l (ax l)).ins ins
def Df(r:Mr)(K:aP)(ins:Bd):Prop:=
 BP r.l/\0<r.l.fs.length/\r.l.fs.length<=1000000/\Ux ins/\(0<=r.steps/\r.steps<=1000)/\
  (zV r.l ins=true->dL r.l 11 (ax r.l) [] K (X2 r.l ins)/\(ad r.l (ax r.l)).outs.length<=1000/\((ff r.l K ins).2=0->∀y∈u9 r.l (ax r.l) (ff r.l K ins).1.2,y.length<=1000))
def La(r:Mr)(K:aP)(ins:Bd):J:=
 if zV r.l ins=true then if(ff r.l K ins).2=0 then .b9 [.sl ((u9 r.l (ax r.l) (ff r.l K ins).1.2).map cy),.int .i64 0]else .b9 [.nil,.int .i64 (ff r.l K ins).2]else .b9 [.nil,.int .i64 18]
@[reducible] def wT(d:Va):ae:=⟨.loc,5,[eu d]⟩
def Vt(p:Nat)(r:Mr)(K e:aP)(n:Nat):List ae:=⟨.loc,1,[[.ptr p 1 0 0]]⟩::⟨.loc,4,[Nx p (ax r.l) [] (n+2)]⟩::gh e::((ad r.l (ax r.l)).ins.map wT++[gh K])
def OO(p:Nat)(r:Mr)(K:aP)(ins:Bd)(B:List ae):List ae:=
 if zV r.l ins=true then if(ff r.l K ins).2=0 then(one B r.k (gh (ff r.l K ins).1.1)).set p (oM ⟨r.l,r.c,r.o,r.k,r.steps+1⟩)
  else(one B r.k (gh (ff r.l K ins).1.1)).set p (oM ⟨r.l,r.c,r.o,B.length+((ad r.l (ax r.l)).ins.length+3),r.steps⟩)++Vt p r K (ff r.l K ins).1.2 B.length
 else B
noncomputable abbrev auS:List (FuncId×(Ab->Prop×J)):=[(28,Nw)]
noncomputable abbrev auT:List (FuncId×(Ab->List ae->o9)):=[(27,QJ),(30,IC),(33,am9),(34,ID),(35,qC 11),(36,anb),(37,amB)]
theorem awx{B t:List ae}{k}{K K' e e'}{a b}(h:k<B.length):TK.put (one B k (gh K)++(a::b::gh e::t)) k (B.length+2) (K',e')=one B k (gh K')++(a::b::gh e'::t):=by have h1:TK.put (one B k (gh K)++(a::b::gh e::t)) k (B.length+2) (K',e')=((one B k (gh K)++(a::b::gh e::t)).set (B.length+2) (gh e')).set k (gh K'):=rfl;rw[h1,am7,ahB h]
theorem yq.ext{B eZ}{x:Mx}(h:yq B x)(U:BR B eZ):yq eZ x:=
 ⟨U _ _ h.p (.inl (by simp)),U _ _ h.c (.inl (by simp)),U _ _ h.o (.inl (by simp)),U _ _ h.k (.inl (by simp))⟩
theorem yq.steps{B}{x:Mx}(h:yq B x)(o:Mr)(hc:o.c=x.r.c)(ho:o.o=x.r.o)(hl:o.l=x.r.l)(K)(t)(hk:(Nk.one B x.r.k (gh K)++t)[o.k]? =some (gh K))(Q4:o.k≠x.p):yq ((Nk.one B x.r.k (gh K)).set x.p (oM o)++t) ⟨x.p,o,K⟩:=by
 obtain⟨n1,n2,n3,n4,n5,n6,n7⟩:=h.ne;have g:=h.one K t;have Y:(Nk.one B x.r.k (gh K)).set x.p (oM o)++t=(Nk.one B x.r.k (gh K)++t).set x.p (oM o):=by simp_all[FT,z5]
 rw[Y];refine⟨?_,?_,?_,?_⟩
 .grind[List.getElem?_set_self,z5]
 .show((Nk.one B x.r.k (gh K)++t).set x.p (oM o))[o.c]? =some (oC o.l);rw[hc,hl,MG (Ne.symm n4)];exact g.c
 .show((Nk.one B x.r.k (gh K)++t).set x.p (oM o))[o.o]? =some ⟨.aV,1,cW (mN o.l)⟩;rw[ho,hl,MG (Ne.symm n5)];exact g.o
 grind
theorem aav{en}:∀(ds:List Va) (v:Bd),ds.length=v.length->OL en ds v=true->∀y∈v,y.length<=1000
 |_,[],_,_,y,hy=>by simp at hy
 |[],_::_,h,_,_,_=>by simp at h
 |d::ds,z::v,h,hz,y,hy=>by
  simp only[OL,jo,ab,GO]at hz;rcases NO.1 hy with rfl|hy
  .have:=yF (z6 d);omega
  .exact aav ds v (by simpa using h) hz.2 y hy
theorem anf{l}{ins}(h:zV l ins=true):∀y∈ins,y.length<=1000:=by simp only[zV,uy,ab,ir]at h;exact aav _ _ h.1 h.2
theorem amG{B:List ae}{p}{r:Mr}{K}{ins:Bd}{Q}(g:yq B ⟨p,r,K⟩)(hO:Df r K ins)
 (q1:zV r.l ins=false->∀s,get 4 s.R= .nil->get 5 s.R= .int .i64 18->(∃t,s.B=B++t)->Q .ret s)
 (q2:zV r.l ins=true->(ff r.l K ins).2=0->∀s,get 4 s.R= .sl ((u9 r.l (ax r.l) (ff r.l K ins).1.2).map cy)->get 5 s.R= .int .i64 0->(∃t,s.B=(one B r.k (gh (ff r.l K ins).1.1)).set p (oM ⟨r.l,r.c,r.o,r.k,r.steps+1⟩)++t)->Q .ret s)
 (q3:zV r.l ins=true->(ff r.l K ins).2≠0->∀s,get 4 s.R= .nil->get 5 s.R= .int .i64 (ff r.l K ins).2->
  s.B=(one B r.k (gh (ff r.l K ins).1.1)).set p (oM ⟨r.l,r.c,r.o,B.length+((ad r.l (ax r.l)).ins.length+3),r.steps⟩)++Vt p r K (ff r.l K ins).1.2 B.length->Q .ret s):
 gP (dJ.of auS auT) B.length (iM B.length).code Q ⟨[(0,.ptr p 1 0 0),(1,.sl (ins.map cy))],B⟩:=by
 obtain⟨hw,k_,XI,hF,PK,hS⟩:=hO;obtain⟨l,c,o,k,st⟩:=r;dsimp only at*;have FB:0<=ax l:=by unfold ax;omega
 have gg:ax l<l.fs.length:=by unfold ax;omega
 have hV:FF l (ax l):=⟨hw,FB,gg⟩;have hlen:=g.lt;have h0:one B k (gh K)++[]=B:=by rw[xz];exact Qy g.k
 have hk:k<B.length:=g.lt.2.2.1;have PJ:p<B.length:=g.lt.2.2.2;have Y:=λK t=>aDe (g.one K t) k_;have e2:=λK t=>amD (g.one K t) XI;have gp:=λK t=>(g.one K t).p;have gc:=λK t=>(g.one K t).c;have gk:=λK t=>(g.one K t).k;have hIG:∀L,(∀eZ,BR (one B k (gh K)++L) eZ->IC [.ptr p 1 0 0] eZ=⟨True,.int .i64 ((l.fs.length:Int)-1),eZ⟩)=True:=λL=>lU λeZ U=>amD ((g.one K L).ext U) XI;obtain⟨cg,cl⟩:=yz FB gg;have fm:ad l (ax l)∈l.fs:=by grind[ax,ad,ed]
 have FI:=(hw.1 _ fm).1;have eQ:=λ(L:List ae)=>ana (B:=one B k (gh K)++(⟨.loc,1,[[.ptr p 1 0 0]]⟩::L)) (b:=B.length) (p:=p) (r:=⟨l,c,o,k,st⟩) auV (gp K _) (ad l (ax l)).ins ins ⟨FI,hF⟩;have eC:=λ(e:aP) (a b:ae) (G:List ae)=>aaw (B:=one B k (gh K)++(a::b::gh e::G)) (n:=k) (es:=K.map n8) (gk K _);have FJ:∀K' L x,(one B k (gh K')++L).set p x=(one B k (gh K')).set p x++L:=λK' L x=>FT _ _ (by rw[z5];exact PJ);have oH:B.length+2≠k:=by omega
 have Q4:k≠p:=λe=>g.ne.1 e.symm;dsimp only at Y e2 gp gc gk hlen eQ eC hV PK;have zQ:=nI l;have eB:=λ(e:aP) (a b:ae) (G:List ae) (ho:dL l 11 (ax l) [] K e)=>aDd (N:=11) (r:=⟨l,c,o,k,st⟩) (p:=p) (m:=B.length+2) (at_:=ax l) (ah:=[]) (K:=K) (env:=e) (B:=one B k (gh K)++(a::b::gh e::G)) (by simp_all) (gp K _) (gc K _) (gk K _) (λe=>oH e.symm) hw ho;have azu:((l.fs.length:Int)-1)=ax l:=rfl;rw[azu]at e2 hIG;have hmD:zV l ins=uy l.enums (ad l (ax l)).ins ins:=rfl;have Lb:u9 l (ax l)=λenv=>(ad l (ax l)).outs.map λd=>dT env d.name:=rfl;have hsM:ff l K ins=aX l 11 (ax l) [] K (bu ((ad l (ax l)).ins.map (·.name)) ins []):=rfl;have PH:∀L,(BR (one B k (gh K)++L) (one B k (gh K)++L)):=λL _ _ e _=>e;rw[show(⟨[(0,.ptr p 1 0 0),(1,.sl (ins.map cy))],B⟩:DS)=⟨[(0,.ptr p 1 0 0),(1,.sl (ins.map cy))],one B k (gh K)++[]⟩ by rw[h0]];simp only[E1]at cg;cases hI:zV l ins
 .have hQ:uy l.enums (ad l (ax l)).ins ins=false:=hI;rw[hQ]at eQ;have q1:=q1 hI;clear q2 q3 hS hI;refine b5 (ey @iM.eq_1 Y e2 hIG gp gc cg cl (fj zQ FB gg eQ)) (JJ ?_);all_goals exact q1 _ rfl rfl ⟨_,by rw[show one B k (gh K)=B from Qy g.k]⟩
 obtain⟨hB,wR,UZ⟩:=hS hI;have hQ:uy l.enums (ad l (ax l)).ins ins=true:=hI;rw[hQ]at eQ;have q2:=q2 hI;have q3:=q3 hI;have aGr:(ad l (ax l)).ins.length=ins.length:=by simp only[uy,ab,ir]at hQ;exact hQ.1
 have lx:∀y∈ins,y.length<=1000:=anf hI;clear q1 hI hQ Lb hmD;have hsD:ff l K ins=aX l 11 (ax l) [] K (X2 l ins):=rfl;have heD:X2 l ins=bu ((ad l (ax l)).ins.map (·.name)) ins []:=rfl;have eS:=λ(K':aP) (t:List ae)=>anc (B:=one B k (gh K')++t) (x:=⟨p,⟨l,c,o,k,st⟩,K'⟩) (g.one K' t) PK;have gB:=λa b G=>eB (X2 l ins) a b G hB;rw[<-hsD]at gB;clear eB hsM hsD PH hB;have Ph:∀(K':aP) (o':Mr) (a b x:ae) (t:List ae),((one B k (gh K')).set p (oM o')++(a::b::x::t))[B.length+1]? =some b/\((one B k (gh K')).set p (oM o')++(a::b::x::t))[B.length+2]? =some x:=λK' o' a b x t=>by refine⟨?_,?_⟩<;>(rw[IF (by simp[one])];simp[one])
 have eO:=λ(K' e:aP) (a b:ae) (t:List ae) (hy:∀y∈u9 l (ax l) e,y.length<=1000)=>aar (ah:=[]) (p:=p) (m:=B.length+2) (r:=⟨l,c,o,k,st+1⟩) (env:=e) (Ph K' ⟨l,c,o,k,st+1⟩ a b (gh e) t).2 (g.steps ⟨l,c,o,k,st+1⟩ rfl rfl rfl K' (a::b::gh e::t) (gk K' _) Q4).p (g.steps ⟨l,c,o,k,st+1⟩ rfl rfl rfl K' (a::b::gh e::t) (gk K' _) Q4).c ⟨hV,wR,hy⟩;refine b5 (ey @iM.eq_1 Y e2 hIG gp gc cg cl (fj zQ FB gg eQ)) (JJ ?_);unfold Vt at q3;generalize ff l K ins=An at*;generalize u9 l (ax l)=aJI at*;generalize qy (lg (ad l (ax l)))=BQ at*;generalize aQ l (ax l)=S at*;generalize X2 l ins=amH at*;generalize hfd:ad l (ax l)=f at*;obtain⟨fM,ie,cM,fvars,fG⟩:=f;dsimp only at*;refine aj ie (λj (x:aP×List ae)=>⟨[(1,.sl (ins.map cy)),(2,.ptr B.length 1 0 0),(6,.ptr (B.length+1) 1 0 0),(44,.sl (ie.map eu)),(45,.int .i64 ie.length),(46,.int .i64 j)],
  one B k (gh K)++(⟨.loc,1,[[.ptr p 1 0 0]]⟩::⟨.loc,4,[Nx p (ax l) [] (B.length+2)]⟩::gh x.1::x.2)⟩)
  (λj r x=>bu (r.map (·.name)) (ins.drop j) x.1=amH/\x.2++r.map wT=ie.map wT) ([],[]) trivial CT ⟨heD.symm,rfl⟩ (λj x r a d U Z E=>?_) (λj a ej E=>?_)
 .obtain⟨e,G⟩:=a;obtain⟨r1,r2⟩:=E;dsimp only at r1 r2;have hj:j<ins.length:=by omega
  obtain⟨y,vd,Hi⟩:=eE ins (k:=j) (by omega);rw[Hi,p0]at r1;rw[p0]at r2;have gx:=ag eu U;have gy:=ag cy vd;have e5:=yA y;rw[lU (show y.length<=1000000 by have:=lx y (ed vd);omega)]at e5;obtain⟨vn,vk,ve,vl,hr⟩:=x;have r1:bu (r.map (·.name)) (ins.drop (j+1)) (jR vn y e)=amH:=r1;refine b5 (ey @awt @awu @am7 d gx gy hj e5 (bV @C3.{0,0} @lQ)) (JJ ?_);all_goals exact⟨(jR vn y e,_),CT,r1,by simpa using r2⟩
 .obtain⟨e,G⟩:=a;obtain⟨r1,r2⟩:=E;have r1:e=amH:=r1;have r2:G=ie.map wT:=by simpa using r2
  subst r1;have hGl:G.length=ie.length:=by rw[r2];simp
  obtain⟨⟨R1,R2⟩,R3⟩:=An;dsimp only at gB q2 q3 UZ;have gB2:∀(a b:ae) (G:List ae),qC 11 [.agg [.ptr p 1 0 0,.int .i64 (ax l),.str [],.mp (B.length+2)]] (one B k (gh K)++(a::b::gh e::G))=⟨True,.int .i64 R3,one B k (gh R1)++(a::b::gh R2::G)⟩:=λa b G=>by rw[gB a b G,awx hk]
  clear gB;by_cases c0:R3=0;rotate_left
  .have q3:=q3 c0;refine b5 (fF ej gp eC gB2 FJ) (JJ (λhn=>?_));all_goals first|exact absurd (by assumption) c0|(refine q3 _ rfl rfl ?_;simp only[r2,Pe];done)
  .subst c0;have q2:=q2 rfl;have eO2:=λ(K':aP) (a b:ae) (t:List ae)=>eO K' R2 a b t (UZ rfl);have D3:=λ(K':aP) (o':Mr) (a b x:ae) (t:List ae)=>(Ph K' o' a b x t).1;refine b5 (rO ej gp eC gB2 FJ D3 eO2) (JJ ?_);all_goals exact q2 _ rfl rfl ⟨_,rfl⟩
theorem ang{s:DS}{x y}(h4:get 4 s.R=x)(h5:get 5 s.R=y):(aS s [.t 4,.t 5]).1/\(aS s [.t 4,.t 5]).2= .b9 [x,y]:=by simp[aS,iN,DR.val,h4,h5]
theorem aDg:tP (λc:Bd=>[J.sl (c.map cy)]):=λx y h=>by simp only[DO,J.sl.injEq,Xv]at h;exact map_inj (λx y h=>by simp only[cy,DO,J.sl.injEq,Xv]at h;exact sO h) x y h
noncomputable def mr:=IA (λins:Bd=>[.sl (ins.map cy)]) (λX=>(Df X.1.r X.1.K X.2,La X.1.r X.1.K X.2)) λX B=>OO X.1.p X.1.r X.1.K X.2 B
theorem aek{B}{x:Mx}(h:yq B x)(ins:Bd)(ho:Df x.r x.K ins):mr [.ptr x.p 1 0 0,.sl (ins.map cy)] B=⟨True,La x.r x.K ins,OO x.p x.r x.K ins B⟩:=by have:=yB aDg (λX=>(Df X.1.r X.1.K X.2,La X.1.r X.1.K X.2)) (λX B=>OO X.1.p X.1.r X.1.K X.2 B) h ins;rw[lU (show Df x.r x.K ins from ho)]at this;exact this
theorem amI:ez Tryz.prog 10 mr:=by
 intro a B bE;unfold mr IA iY at bE|-;split at bE;rotate_left
 .exact bE.elim
 rename_i U;rw[CV U];have hy:=U.choose_spec;generalize U.choose=X at hy bE|-;obtain⟨⟨p,r,K⟩,ins⟩:=X;obtain⟨rfl,g⟩:=hy;dsimp only at bE g|-;have nT:(dJ.of auS auT).ok Tryz.prog:=Vu ⟨Li,BB⟩ ⟨XG,aat,awv,ajA,anh 11,aww,am3,BB⟩;have hm:mT Tryz.prog 10 [J.ptr p 1 0 0,.sl (ins.map cy)].length (iM B.length)=true:=aD6 B.length;have mP:=g.lt;have oH:∀r':Mr,r'.c=r.c->r'.o=r.o->r'.k=r.k->∀K',∀(i:Nat) (x:ae),((one B r.k (gh K')).set p (oM r'))[i]? =some x->B[i]? =some x\/x.cut B.length=x:=λr' h1 h2 h3 K' i x U=>by
  rw[Fa]at U;split at U
  .grind[ane]
  .exact Iy rfl i x U
 cases hI:zV r.l ins
 .have Y:OO p r K ins B=B:=by unfold OO;rw[hI];rfl
  have e2:La r K ins= .b9 [.nil,.int .i64 18]:=by unfold La;rw[hI];rfl
  rw[Y,e2];refine sj nT hm (amG g bE (λ_ s h4 h5 h6=>?_) (λh=>by simp_all) (λh=>by simp_all));obtain⟨a1,a2⟩:=ang h4 h5;exact⟨a1,a2,rfl,rfl,h6,λi o h=> .inl h⟩
 .by_cases c0:(ff r.l K ins).2=0
  .have Y:OO p r K ins B=(one B r.k (gh (ff r.l K ins).1.1)).set p (oM ⟨r.l,r.c,r.o,r.k,r.steps+1⟩):=by unfold OO;simp_all
   have e2:La r K ins= .b9 [.sl ((u9 r.l (ax r.l) (ff r.l K ins).1.2).map cy),.int .i64 0]:=by unfold La;simp_all
   rw[Y,e2];refine sj nT hm (amG g bE (λh=>by simp_all) (λ_ _ s h4 h5 h6=>?_) (λ_ h=>absurd c0 h));obtain⟨a1,a2⟩:=ang h4 h5;exact⟨a1,a2,rfl,by simp[one],h6,oH ⟨r.l,r.c,r.o,r.k,r.steps+1⟩ rfl rfl rfl _⟩
  .have Y:OO p r K ins B=(one B r.k (gh (ff r.l K ins).1.1)).set p (oM ⟨r.l,r.c,r.o,B.length+((ad r.l (ax r.l)).ins.length+3),r.steps⟩)++Vt p r K (ff r.l K ins).1.2 B.length:=by unfold OO;simp_all
   have e2:La r K ins= .b9 [.nil,.int .i64 (ff r.l K ins).2]:=by unfold La;simp_all
   rw[Y,e2];refine arQ nT hm (amG g bE (λh=>by simp_all) (λ_ h=>absurd h c0) (λ_ _ s h4 h5 h6=>?_));obtain⟨a1,a2⟩:=ang h4 h5;exact⟨a1,a2,h6⟩
theorem ar7{B:List ae}{p}{r:Mr}{K}{ins}(g:yq B ⟨p,r,K⟩):
 ∃r',r'.l=r.l/\r'.steps=(if zV r.l ins=true/\(ff r.l K ins).2=0 then r.steps+1 else r.steps)/\
  yq (OO p r K ins B) ⟨p,r',if zV r.l ins=true/\(ff r.l K ins).2=0 then(ff r.l K ins).1.1 else K⟩/\
  (∀(i:Nat) (o:ae),B[i]? =some o->i≠p->i≠r.k->(OO p r K ins B)[i]? =some o)/\(r'.k=r.k\/B.length<=r'.k):=by
 have mP:=g.lt;have bP:=g.ne;have DW:∀(o':ae) K' t (i:Nat) (o:ae),B[i]? =some o->i≠p->i≠r.k->((one B r.k (gh K')).set p o'++t)[i]? =some o:=λo' K' t i o h h1 h2=>by have hl:=(pc.1 h).1;simp_all[OR,one,MG,Ne.symm]
 unfold OO;cases hI:zV r.l ins
 .grind
 .by_cases c0:(ff r.l K ins).2=0
  .simp only[c0,and_self,Bp];refine⟨⟨r.l,r.c,r.o,r.k,r.steps+1⟩,rfl,rfl,?_,λi o h h1 h2=>?_,.inl rfl⟩
   .have:=g.steps ⟨r.l,r.c,r.o,r.k,r.steps+1⟩ rfl rfl rfl (ff r.l K ins).1.1 [] (g.one (ff r.l K ins).1.1 []).k (Ne.symm bP.1);simp_all
   .have:=DW (oM ⟨r.l,r.c,r.o,r.k,r.steps+1⟩) (ff r.l K ins).1.1 [] i o h h1 h2;simp_all
  .simp only[c0,and_false,Bp,Bv];refine⟨⟨r.l,r.c,r.o,B.length+((ad r.l (ax r.l)).ins.length+3),r.steps⟩,rfl,rfl,?_,λi o h h1 h2=>DW _ _ _ i o h h1 h2,.inr (by simp_all)⟩;have BW:=bP.2.2.2.2.2.2;refine⟨?_,?_,?_,?_⟩
   .show((one B r.k (gh (ff r.l K ins).1.1)).set p (oM ⟨r.l,r.c,r.o,B.length+((ad r.l (ax r.l)).ins.length+3),r.steps⟩)++_)[p]? =_;simp_all[OR,one,List.getElem?_set_self]
   .exact DW _ _ _ _ _ g.c bP.2.2.2.1 bP.2.1
   .exact DW _ _ _ _ _ g.o bP.2.2.2.2.1 bP.2.2.1
   .show((one B r.k (gh (ff r.l K ins).1.1)).set p (oM ⟨r.l,r.c,r.o,B.length+((ad r.l (ax r.l)).ins.length+3),r.steps⟩)++Vt p r K (ff r.l K ins).1.2 B.length)[B.length+((ad r.l (ax r.l)).ins.length+3)]? =some (gh K);simp_all[IF,one,Vt]
end Go.Proofs.YtldnkkkooabaeaaGreat

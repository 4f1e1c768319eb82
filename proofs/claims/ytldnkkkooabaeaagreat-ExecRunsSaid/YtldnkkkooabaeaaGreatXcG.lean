/- Frames: what changes what is kept, or what variables have: a reset; a call (26). -/
import Derived.Test.YtldnkkkooabaeaaGreatXcD
set_option maxHeartbeats 8000000
set_option linter.all false
set_option maxRecDepth 20000
namespace Go.Proofs.YtldnkkkooabaeaaGreat
open Go.Nk
def TK:jJ (aP×aP):=⟨λ_ v=>gh v.1,λv=>gh v.2⟩
section
variable {B t:List ae} {n m:Nat} {v:aP×aP}
theorem ani{i}{o}(h:B[i]? =some o)(h1:i≠n)(h2:i≠m):(TK.put B n m v++t)[i]? =some o:=by have hl:=(pc.1 h).1;simp_all[jJ.put,OR,MG,Ne.symm]
theorem kR(k:gU B n m):(TK.put B n m v++t)[n]? =some (gh v.1):=jJ.ZM k
theorem XJ(k:gU B n m):(TK.put B n m v++t)[m]? =some (gh v.2):=jJ.qn k
def ank(k:gU B n m)(K):=show(TK.put B n m v++t).set n (gh K)=_ from jJ.auX (T:=TK) (v':=(K,v.2)) k rfl
theorem auY(k:gU B n m)(e):(TK.put B n m v++t).set m (gh e)=TK.put B n m (v.1,e)++t:=jJ.azw (T:=TK) (v':=(v.1,e)) k rfl
variable {o o' x y z b:ae} {g:List ae}
def OP:=show(TK.put B n m v).length=_ from jJ.uz
def td:=show(TK.put B n m v++(o::t))[B.length]? =_ from jJ.qw
theorem E2:(TK.put B n m v++(x::o::t))[B.length+1]? =some o:=by simp_all[Qq,OP]
theorem QO:(TK.put B n m v++(x::y::o::t))[B.length+2]? =some o:=by simp_all[aam,OP]
theorem anl:(TK.put B n m v++(x::y::z::o::t))[B.length+3]? =some o:=by simp_all[aak,OP]
theorem auZ:(TK.put B n m v++(x::y::z::b::o::t))[B.length+4]? =some o:=by simp_all[anm,OP]
theorem ann:(TK.put B n m v++(x::y::o::t)).set (B.length+2) o'=TK.put B n m v++(x::y::o'::t):=by simp_all[aan,OP]
theorem au0:(TK.put B n m v++(x::y::z::o::t)).set (B.length+3) o'=TK.put B n m v++(x::y::z::o'::t):=by simp_all[aal,OP]
theorem azx:(TK.put B n m v++(x::y::z::b::o::t)).set (B.length+4) o'=TK.put B n m v++(x::y::z::b::o'::t):=by simp_all[ano,OP]
theorem ka:(TK.put B n m v++(x::(g++(o::t))))[B.length+(g.length+1)]? =some o:=by simp_all[aeB,OP]
theorem QP:(TK.put B n m v++(x::(g++(o::t)))).set (B.length+(g.length+1)) o'=TK.put B n m v++(x::(g++(o'::t))):=by simp_all[ams,OP]
theorem azy{K K' e g0 g1}{a b c}(k:gU B n m):TK.put (TK.put B n m (K,e)++(a::b::c::gh g0::t)) n (B.length+3) (K',g1)=TK.put B n m (K',e)++(a::b::c::gh g1::t):=by have h1:TK.put (TK.put B n m (K,e)++(a::b::c::gh g0::t)) n (B.length+3) (K',g1)=((TK.put B n m (K,e)++(a::b::c::gh g0::t)).set (B.length+3) (gh g1)).set n (gh K'):=rfl;rw[h1,au0,ank k]
end
structure WX(α:Type) where
 p:Nat
 r:Mr
 at_:Int
 ah:B3
 m:Nat
 K:aP
 env:aP
 x:α
def WR{α:Type}(args:α->Ab)(X:WX α)(a:Ab)(B:List ae):Prop:=
 a= .agg (Nx X.p X.at_ X.ah X.m)::args X.x/\B[X.m]? =some (gh X.env)/\B[X.p]? =some (oM X.r)/\B[X.r.c]? =some (oC X.r.l)/\B[X.r.k]? =some (gh X.K)/\X.r.k≠X.m
noncomputable def Nz{α:Type}(args:α->Ab)(f:WX α->Prop×J×(aP×aP)):Ab->List ae->o9:=iY (WR args) (λX=>((f X).1,(f X).2.1)) λX B=>TK.put B X.r.k X.m (f X).2.2
theorem WR.u{α}{args:α->Ab}(ha:tP args):∀(X Cp:WX α) (a:Ab) (B:List ae),WR args X a B->WR args Cp a B->X=Cp:=by
 rintro⟨p1,r1,a1,b1,m1,K1,Y,x1⟩ ⟨p2,r2,a2,b2,m2,K2,e2,x2⟩ a B ⟨rfl,h1,h3,_,h5,_⟩ ⟨h,h2,h4,_,h6,_⟩
 simp only[Nx,DO,J.agg.injEq,J.ptr.injEq,J.int.injEq,J.str.injEq,J.mp.injEq,Bt,Xv]at h;obtain⟨⟨rfl,rfl,rfl,rfl⟩,U⟩:=h;have:=ha _ _ U;grind[XE,abc,PM]
theorem aaA{α:Type}{args:α->Ab}(ha:tP args)(f:WX α->Prop×J×(aP×aP)){p m:Nat}{r:Mr}{at_:Int}{ah:B3}{K env:aP}{B:List ae}(h:B[m]? =some (gh env))(h1:B[p]? =some (oM r))(h2:B[r.c]? =some (oC r.l))(h3:B[r.k]? =some (gh K))(h4:r.k≠m)(x:α):
 Nz args f (.agg (Nx p at_ ah m)::args x) B=⟨(f ⟨p,r,at_,ah,m,K,env,x⟩).1,(f ⟨p,r,at_,ah,m,K,env,x⟩).2.1,TK.put B r.k m (f ⟨p,r,at_,ah,m,K,env,x⟩).2.2⟩:=
 fh (x:=(⟨p,r,at_,ah,m,K,env,x⟩:WX α)) (WR.u ha) ⟨rfl,h,h1,h2,h3,h4⟩
theorem amy{α}{args:α->Ab}(ha:tP args)(f:WX α->Prop×J×(aP×aP)){p m}{r:Mr}{at_}{ah}{K env}{B t}(k:gU B r.k m)(h1:(TK.put B r.k m (K,env)++t)[p]? =some (oM r))(h2:(TK.put B r.k m (K,env)++t)[r.c]? =some (oC r.l))(x:α):
 Nz args f (.agg (Nx p at_ ah m)::args x) (TK.put B r.k m (K,env)++t)=⟨(f ⟨p,r,at_,ah,m,K,env,x⟩).1,(f ⟨p,r,at_,ah,m,K,env,x⟩).2.1,TK.put B r.k m (f ⟨p,r,at_,ah,m,K,env,x⟩).2.2++t⟩:=by
 rw[aaA ha f (XJ k) h1 h2 (kR k) k.2.2,jJ.PN k]
theorem ez.Vv{ps I}{fn:FuncId}{d:Nat->ay}{N:Nat}{α:Type}{args:α->Ab}{f:WX α->Prop×J×(aP×aP)}(h1:sf Tryz.prog ps)(h2:si Tryz.prog I)(hm:∀b,mT Tryz.prog fn N (d b)=true)(hN:∀x,(args x).length+1=N)(hb:∀X n,((f X).2.1).qA n=true)
 (k:∀(X:WX α) (B:List ae),gU B X.r.k X.m->(∀v t,(TK.put B X.r.k X.m v++t)[X.p]? =some (oM X.r))->(∀v t,(TK.put B X.r.k X.m v++t)[X.r.c]? =some (oC X.r.l))->(f X).1->
  gP (dJ.of ps I) B.length (d B.length).code (Zh TK (d B.length).res (f X).2.1 B X.r.k X.m (f X).2.2) ⟨(0,.agg (Nx X.p X.at_ X.ah X.m))::aO 1 (args X.x),TK.put B X.r.k X.m (X.K,X.env)++[]⟩):ez Tryz.prog fn (Nz args f):=by
 intro a B bE;unfold Nz iY at bE|-;split at bE;rotate_left
 .exact bE.elim
 rename_i U;rw[CV U];have hy:=U.choose_spec;generalize U.choose=X at hy bE|-;obtain⟨rfl,g1,g2,g3,g4,g5⟩:=hy;have l4:=(pc.1 g4).1;have l1:=(pc.1 g1).1;have k3:gU B X.r.k X.m:=⟨l4,l1,g5⟩;have MA:∀{i j:Nat} {o:ae} {e:aP},B[i]? =some o->B[j]? =some (gh e)->(∀c,o.k≠ .mp c)->i≠j:=λhi hj hk=>by grind
 have:=k X B k3 (λv t=>ani g2 (MA g2 g4 (by simp)) (MA g2 g1 (by simp))) (λv t=>ani g3 (MA g3 g4 (by simp)) (MA g3 g1 (by simp))) bE;rw[jJ.XL (T:=TK) (v:=(X.K,X.env)) ⟨g4,g1,g5⟩,xz]at this;refine sj (Vu h1 h2) (by simp_all) (yC (λe s hq=>?_) this);have key:((aS s (d B.length).res).1/\(aS s (d B.length).res).2=(f X).2.1/\∃u t,s.B=TK.put B X.r.k X.m u++t/\u=(f X).2.2)->
  ((aS s (d B.length).res).1/\(aS s (d B.length).res).2=(f X).2.1/\((f X).2.1).qA B.length=true/\(TK.put B X.r.k X.m (f X).2.2).length=B.length/\(∃t,s.B=TK.put B X.r.k X.m (f X).2.2++t)/\∀(i:Nat) (o:ae),(TK.put B X.r.k X.m (f X).2.2)[i]? =some o->B[i]? =some o\/o.cut B.length=o):=by
  rintro⟨q1,q2,u,t,q3,rfl⟩
  exact⟨q1,q2,hb _ _,OP,⟨t,q3⟩,jJ.XM rfl rfl⟩
 cases e with
 |normal=>exact key hq
 |exit id=>exact hq.elim
 |ret=>exact key hq
theorem aeC:tP (λx:Int×B3=>[J.int .i64 x.1,.str x.2]):=λx y h=>by grind
def PO(l:cT)(x:Int×B3):Prop:=0<=x.1/\x.1<l.fs.length/\kE (aQ l x.1)/\x.2.length<=1000000
noncomputable def IE:=Nz (λx:Int×B3=>[.int .i64 x.1,.str x.2]) λX=>(PO X.r.l X.x,.b9 [],(dZ (aQ X.r.l X.x.1) X.x.2 X.K,X.env))
theorem aKa{p m}{r:Mr}{at_}{ah}{K env}{B t}(k:gU B r.k m)(h1:(TK.put B r.k m (K,env)++t)[p]? =some (oM r))(h2:(TK.put B r.k m (K,env)++t)[r.c]? =some (oC r.l))(x)(s)(ho:PO r.l (x,s)):
 IE [.agg [.ptr p 1 0 0,.int .i64 at_,.str ah,.mp m],.int .i64 x,.str s] (TK.put B r.k m (K,env)++t)=⟨True,.b9 [],TK.put B r.k m (dZ (aQ r.l x) s K,env)++t⟩:=by
 have:=amy (at_:=at_) (ah:=ah) aeC (λX=>(PO X.r.l X.x,J.b9 [],(dZ (aQ X.r.l X.x.1) X.x.2 X.K,X.env))) k h1 h2 (x,s);rw[lU (show PO r.l (x,s) from ho)]at this;exact this
theorem ajB:ez Tryz.prog 118 IE:=by
 refine ez.Vv (d:=λ_=>pb) (ps:=[(28,Nw)]) (I:=[]) ⟨Li,BB⟩ trivial (λ_=>aGn) (λ_=>rfl) (λ_ _=>rfl) λX B k gp gc h=>?_;obtain⟨p,r,at_,ah,m,K,env,nd,s⟩:=X;obtain⟨h0,h1,hS,I⟩:=h;dsimp only at k gp gc h0 h1 hS I|-;obtain⟨cg,cl⟩:=yz h0 h1;have zQ:=nI r.l;obtain⟨l,c,o,kk,st⟩:=r;dsimp only at cg cl h1 hS zQ k gp gc|-;simp only[E1]at cg;generalize qy (lg (ad l nd))=BQ at*;generalize aQ l nd=S at*;generalize ad l nd=f at*;obtain⟨hS1,hS2⟩:=hS;have kh:∀(K1 K2:aP) t,(TK.put B kk m (K1,env)++t).set kk ⟨.mp (K2.map n8),0,[]⟩=TK.put B kk m (K2,env)++t:=λK1 K2 t=>ank (v:=(K1,env)) k K2;refine tQ (ey @pb.eq_1 @td gp gc h0 h1 cg cl zQ) (JJ ?_);refine aj S (λj (x:aP×List ae)=>⟨[(2,.str s),(3,.ptr B.length 1 0 0),(16,.sl (S.map bf)),(17,.int .i64 S.length),(18,.int .i64 j)],TK.put B kk m (x.1,env)++(⟨.loc,4,[Nx p at_ ah m]⟩::x.2)⟩) (λj r x=>dZ r s x.1=dZ S s K) (K,[]) trivial CT rfl (λj q r x d U Z E=>?_) (λj x e E=>?_)
 .obtain⟨K1,G⟩:=x;have gq:=ag bf U;obtain⟨v1,v2⟩:=hS2 q (ed U);have Y:=yA q.dK;rw[lU (show q.dK.length<=1000000 by omega)]at Y;obtain⟨qp,qv⟩:=q;dsimp only at v1 v2 Y E;have E:dZ r s (jR (s++qp) qv K1)=dZ S s K:=E
  ((refine aM.of ?_);(repeat' (first|((with_reducible refine aM.to ?_);(repeat(first|(simp only[↓rP,rT,rU,aB,au,cN,cX,FL,bw,aH,fH,iD,ik,J.bl,bj,bq,cz,b8,bX,dC,jN,J.one,alive,cellsOf,setFrom,Nat.reduceEqDiff,Nat.reduceAdd,↓reduceIte,reduceCtorEq,Nat.reduceLeDiff,Nat.reduceLT,TO,AT,UP,jJ.uz,d,gq,td,ka,QP,kR k,gp,Y,dH,Kd.D4,C3,GN,Hn,lQ,kh,gj])|((simp(disch:=omega) only[qD])))))|((with_reducible refine And.intro ?_ ?_); . omega)|fail)))
  all_goals exact⟨(jR (s++qp) qv K1,_),CT,E⟩
 .obtain⟨K1,G⟩:=x;have E:K1=dZ S s K:=E;subst E;refine tQ @e (JJ ?_);simp_all
theorem QL:tP (λ_:Unit=>([]:Ab)):=λ_ _ _=>rfl
noncomputable def qC(N:Nat):=Nz (λ_:Unit=>[]) λX=>(BP X.r.l/\dL X.r.l N X.at_ X.ah X.K X.env,.int .i64 (aX X.r.l N X.at_ X.ah X.K X.env).2,(aX X.r.l N X.at_ X.ah X.K X.env).1)
theorem aDd{N p m}{r:Mr}{at_}{ah}{K env}{B}(h:B[m]? =some (gh env))(h1:B[p]? =some (oM r))(h2:B[r.c]? =some (oC r.l))(h3:B[r.k]? =some (gh K))(h4:r.k≠m)(hw:BP r.l)(ho:dL r.l N at_ ah K env):
 qC N [.agg [.ptr p 1 0 0,.int .i64 at_,.str ah,.mp m]] B=⟨True,.int .i64 (aX r.l N at_ ah K env).2,TK.put B r.k m (aX r.l N at_ ah K env).1⟩:=by
 have:=aaA (p:=p) (at_:=at_) (ah:=ah) QL (λX=>(BP X.r.l/\dL X.r.l N X.at_ X.ah X.K X.env,J.int .i64 (aX X.r.l N X.at_ X.ah X.K X.env).2,(aX X.r.l N X.at_ X.ah X.K X.env).1)) h h1 h2 h3 h4 ();rw[lU (show BP r.l/\dL r.l N at_ ah K env from⟨hw,ho⟩)]at this;exact this
noncomputable abbrev au1(N:Nat):List (FuncId×(Ab->List ae->o9)):=[(91,NA),(117,aeD),(118,IE),(35,qC N)]
section
variable {B t:List ae} {n m:Nat} {v:aP×aP} {o o' x y z b c:ae} {g:List ae}
theorem azz:(TK.put B n m v++(x::y::z::b::c::(g++(o::t))))[B.length+(g.length+5)]? =some o:=by simp_all[IF,OP]
theorem awz:(TK.put B n m v++(x::y::z::b::c::(g++(o::t)))).set (B.length+(g.length+5)) o'=TK.put B n m v++(x::y::z::b::c::(g++(o'::t))):=by simp_all[aab,OP]
end
theorem ajD{N p kk m c o:Nat}{l:cT}{st at_:Int}{ah:B3}{K K1 env:aP}{q:Pl}{B:List ae}(k:gU B kk m)(gp:∀v t,(TK.put B kk m v++t)[p]? =some (oM ⟨l,c,o,kk,st⟩))(gc:∀v t,(TK.put B kk m v++t)[c]? =some (oC l))
 (hw:BP l) (hK:va l ah q K env=K1) (h:QR l (aX l N) (dL l N) ah q K env) (hn:0<q.names.length):
 gP (dJ.of [] (au1 N)) B.length oc (Zh TK [.t 4] (.int .i64 (pW l (aX l N) ah q K env).2) B kk m (pW l (aX l N) ah q K env).1)
  ⟨[(2,.ptr B.length 1 0 0),(3,.ptr (B.length+1) 1 0 0),(5,.ptr (B.length+2) 1 0 0)],TK.put B kk m (K1,env)++[⟨.loc,4,[Nx p at_ ah m]⟩,⟨.loc,10,[iK q]⟩,⟨.loc,4,[Nx p q.node (dF ah q) (B.length+3)]⟩,gh []]⟩:=by
 obtain⟨h1,h2,_,h4,h5,_,h7,h8,h9⟩:=h;rw[hK]at h9;have hcX:pW l (aX l N) ah q K env=if(aX l N q.node (dF ah q) K1 (FM l q env)).2=0 then
  (((aX l N q.node (dF ah q) K1 (FM l q env)).1.1,bu q.names ((ad l q.node).outs.map λd=>dT (aX l N q.node (dF ah q) K1 (FM l q env)).1.2 d.name) env),0)
  else(((aX l N q.node (dF ah q) K1 (FM l q env)).1.1,env),(aX l N q.node (dF ah q) K1 (FM l q env)).2):=by
  unfold pW;rw[hK]
 rw[hcX];clear hcX;have hI:FM l q env=bu ((ad l q.node).ins.map (·.name)) (q.args.map (aE env)) []:=rfl;have aKb:∀(g0:aP) (a b' c':ae) (t:List ae),dL l N q.node (dF ah q) K1 g0->qC N [.agg [.ptr p 1 0 0,.int .i64 q.node,.str (dF ah q),.mp (B.length+3)]] (TK.put B kk m (K1,env)++(a::b'::c'::⟨.mp (g0.map n8),0,[]⟩::t))=
  ⟨True,.int .i64 (aX l N q.node (dF ah q) K1 g0).2,TK.put B kk m ((aX l N q.node (dF ah q) K1 g0).1.1,env)++(a::b'::c'::⟨.mp ((aX l N q.node (dF ah q) K1 g0).1.2.map n8),0,[]⟩::t)⟩:=λg0 a b' c' t ho=>by
  have:=aDd (N:=N) (r:=⟨l,c,o,kk,st⟩) (K:=K1) (env:=g0) (at_:=q.node) (ah:=dF ah q) (p:=p) (m:=B.length+3) (B:=TK.put B kk m (K1,env)++(a::b'::c'::⟨.mp (g0.map n8),0,[]⟩::t)) anl (gp _ _) (gc _ _) (kR k) (by have:=k.1;grind) hw ho;rw[this];dsimp only;rw[azy k]
 obtain⟨cg,cl⟩:=yz h4 h5;have zQ:=nI l;simp only[E1]at cg;have hoR:∀(e:aP) t (s:B3) (i:Int),NA [.agg [.ptr p 1 0 0,.int .i64 at_,.str ah,.mp m],.agg [.str s,.int .i64 i]] (TK.put B kk m (K1,e)++t)=⟨True,.sl (cC (aE e (s,i))),TK.put B kk m (K1,e)++t⟩:=λe t s i=>Dh (XJ k) s i;generalize dF ah q=ah' at*;generalize FM l q env=amz at*;generalize qy (lg (ad l q.node))=BQ at*;generalize aQ l q.node=S at*;generalize ad l q.node=f at*;obtain⟨fM,ie,cM,fvars,fG⟩:=f;obtain⟨kind,names,op,args,init,node,rs,ev,en,on⟩:=q;dsimp only at*;refine tQ (ey @oc.eq_1 @td @E2 @auZ @azx gp gc h4 (fj h5 cg cl zQ)) (JJ ?_);refine aj ie (λj (x:aP×List ae)=>⟨[(2,.ptr B.length 1 0 0),(3,.ptr (B.length+1) 1 0 0),(5,.ptr (B.length+2) 1 0 0),(6,.ptr (B.length+4) 1 0 0),(52,.sl (ie.map eu)),(53,.int .i64 ie.length),(54,.int .i64 j)],
  TK.put B kk m (K1,env)++(⟨.loc,4,[Nx p at_ ah m]⟩::⟨.loc,10,[iK ⟨kind,names,op,args,init,node,rs,ev,en,on⟩]⟩::⟨.loc,4,[Nx p node ah' (B.length+3)]⟩::gh x.1::⟨.loc,5,[[.str fM,.sl (ie.map eu),.sl (cM.map eu),.sl (fvars.map eu),.sl (fG.map iK)]]⟩::x.2)⟩)
  (λj r x=>bu (r.map (·.name)) ((args.map (aE env)).drop j) x.1=amz) ([],[]) trivial CT (by rw[hI];rfl) (λj x r g d U Z E=>?_) (λj g ej E=>?_)
 .obtain⟨g1,G⟩:=g;have hj:j<args.length:=by omega
  obtain⟨⟨s,i⟩,ha⟩:∃a,args[j]? =some a:=⟨args[j],tx hj⟩;have gx:=ag eu U;have ga:=ag eD ha;have He:(args.map (aE env)).drop j=aE env (s,i)::(args.map (aE env)).drop (j+1):=by simp_all[Hk,tx]
  rw[He,p0]at E;have Y:=λt=>hoR env t s i;obtain⟨vn,vk,ve,vl,hr⟩:=x;have E:bu (r.map (·.name)) ((args.map (aE env)).drop (j+1)) (jR vn (aE env (s,i)) g1)=amz:=E;refine tQ (ey d hj gx ga @td @E2 @QO @anl (jg @au0 @azz @awz Y @C3.{0,0} @lQ)) (JJ ?_);all_goals exact⟨(jR vn (aE env (s,i)) g1,_),CT,E⟩
 .obtain⟨g1,G⟩:=g;have E:g1=amz:=E;subst E;have e2:=λa b' c' t=>aKb g1 a b' c' t h9;generalize aX l N node ah' K1 g1=An at*;obtain⟨⟨R1,R2⟩,R3⟩:=An;dsimp only at e2|-;by_cases c0:R3=0;rotate_left
  .rw[ba c0];refine tQ (cL ej @QO e2) (JJ (λhn=>?_));simp_all
  .rw[gr c0];subst c0;refine ao (fF @ak ej @E2 @QO e2) (JJ ?_);refine aj names (λj (e:aP)=>⟨[(2,.ptr B.length 1 0 0),(5,.ptr (B.length+2) 1 0 0),(6,.ptr (B.length+4) 1 0 0),(77,.sl (cW names)),(78,.int .i64 names.length),(79,.int .i64 j)],
    TK.put B kk m (R1,e)++(⟨.loc,4,[Nx p at_ ah m]⟩::⟨.loc,10,[iK ⟨kind,names,op,args,init,node,rs,ev,en,on⟩]⟩::⟨.loc,4,[Nx p node ah' (B.length+3)]⟩::gh R2::⟨.loc,5,[[.str fM,.sl (ie.map eu),.sl (cM.map eu),.sl (fvars.map eu),.sl (fG.map iK)]]⟩::G)⟩)
    (λj r e=>bu r ((cM.map λd=>dT R2 d.name).drop j) e=bu names (cM.map λd=>dT R2 d.name) env) env trivial CT rfl (λj s r e d U Z E=>?_) (λj e E' E=>?_)
   .have hj:j<cM.length:=by omega
    obtain⟨x,ho⟩:∃a,cM[j]? =some a:=⟨cM[j],tx hj⟩;have gs:=fN U;have go:=ag eu ho;have He:(cM.map λd=>dT R2 d.name).drop j=dT R2 x.name::(cM.map λd=>dT R2 d.name).drop (j+1):=by simp_all[Hk,tx]
    rw[He]at E;have zR:∀(Y e2:aP) t,(TK.put B kk m (R1,Y)++t).set m ⟨.mp (e2.map n8),0,[]⟩=TK.put B kk m (R1,e2)++t:=λY e2 t=>auY (v:=(R1,Y)) k e2;obtain⟨vn,vk,ve,vl,hr⟩:=x;have E:bu r ((cM.map λd=>dT R2 d.name).drop (j+1)) (jR s (dT R2 vn) e)=bu names (cM.map λd=>dT R2 d.name) env:=E
    ((refine aM.of ?_);(repeat' (first|((with_reducible refine aM.to ?_);(repeat(first|(simp only[↓rP,rT,rU,aB,au,cN,cX,bw,aH,alive,Nat.reduceEqDiff,Nat.reduceAdd,↓reduceIte,reduceCtorEq,Nat.reduceLT,ak,d,hj,gs,go,td,QO,anl,auZ,XJ k,dH,Kd.D4,C3,kH,GN,Hn,lQ,zR,ak])|((simp(disch:=omega) only[qD])))))|((with_reducible refine And.intro ?_ ?_); . omega)|fail)))
    all_goals exact⟨jR s (dT R2 vn) e,CT,E⟩
   .have He:(cM.map λd=>dT R2 d.name).drop j=[]:=Z8 (by simp;omega);rw[He]at E;have E:e=bu names (cM.map λd=>dT R2 d.name) env:=E;rw[<-E];refine tQ @E' (JJ ?_);simp_all
theorem amA{C}{h0}{c}{Q}{s s'}(e:s=s')(h:gP C h0 c Q s'):gP C h0 c Q s:=e▸h
noncomputable def PQ(N:Nat):=Nz (λq:Pl=>[.agg (iK q)]) λX=>(BP X.r.l/\X.ah.length<=100000/\0<X.x.names.length/\(aw X.x).length<=1000/\QR X.r.l (aX X.r.l N) (dL X.r.l N) X.ah X.x X.K X.env,.int .i64 (pW X.r.l (aX X.r.l N) X.ah X.x X.K X.env).2,(pW X.r.l (aX X.r.l N) X.ah X.x X.K X.env).1)
theorem aaB{N p m}{r:Mr}{at_}{ah:B3}{K env}{B t}(k:gU B r.k m)(h1:(TK.put B r.k m (K,env)++t)[p]? =some (oM r))(h2:(TK.put B r.k m (K,env)++t)[r.c]? =some (oC r.l))(q:Pl)
 (ho:BP r.l/\ah.length<=100000/\0<q.names.length/\(aw q).length<=1000/\QR r.l (aX r.l N) (dL r.l N) ah q K env):
 PQ N [.agg [.ptr p 1 0 0,.int .i64 at_,.str ah,.mp m],.agg (iK q)] (TK.put B r.k m (K,env)++t)=⟨True,.int .i64 (pW r.l (aX r.l N) ah q K env).2,TK.put B r.k m (pW r.l (aX r.l N) ah q K env).1++t⟩:=by
 have:=amy (at_:=at_) (ah:=ah) IG (λX=>(BP X.r.l/\X.ah.length<=100000/\0<X.x.names.length/\(aw X.x).length<=1000/\QR X.r.l (aX X.r.l N) (dL X.r.l N) X.ah X.x X.K X.env,J.int .i64 (pW X.r.l (aX X.r.l N) X.ah X.x X.K X.env).2,(pW X.r.l (aX X.r.l N) X.ah X.x X.K X.env).1)) k h1 h2 q;rw[lU ho]at this;exact this
theorem anq{N:Nat}(hS:ez Tryz.prog 35 (qC N)):ez Tryz.prog 92 (PQ N):=by
 refine ez.Vv (d:=jS) (ps:=[]) (I:=au1 N) trivial ⟨XQ,aso,ajB,hS,BB⟩ aFI (λ_=>rfl) (λ_ _=>rfl) λX B k gp gc h=>?_;obtain⟨p,⟨l,c,o,kk,st⟩,at_,ah,m,K,env,q⟩:=X;obtain⟨hw,J6,hn,wJ,hC⟩:=h;dsimp only at k gp gc hw J6 hn wJ hC|-;obtain⟨K1,GH⟩:∃K1,va l ah q K env=K1:=⟨_,rfl⟩;have rest:=ajD (at_:=at_) k gp gc hw GH hC hn;have hC':=hC;obtain⟨_,_,c3,c4,c5,c6,_⟩:=hC';generalize (pW l (aX l N) ah q K env).2=CE at*;generalize (pW l (aX l N) ah q K env).1=V at*;have eO:∀t,aeD [.agg [.ptr p 1 0 0,.int .i64 at_,.str ah,.mp m],.agg [.str q.ev,.int .i64 q.en]] (TK.put B kk m (K,env)++t)=⟨aE env (q.ev,q.en)≠[],.int .i64 (aZ env (q.ev,q.en)),TK.put B kk m (K,env)++t⟩:=λt=>yG (.of XR) _ (XJ k) (q.ev,q.en);have eR:∀t,IE [.agg [.ptr p 1 0 0,.int .i64 at_,.str ah,.mp m],.int .i64 q.node,.str (dF ah q)] (TK.put B kk m (K,env)++t)=⟨True,.b9 [],TK.put B kk m (dZ (aQ l q.node) (dF ah q) K,env)++t⟩:=λt=>aKa (r:=⟨l,c,o,kk,st⟩) k (gp _ _) (gc _ _) q.node (dF ah q) ⟨c4,c5,c6,by simp[dF];omega⟩;unfold va at GH;unfold dF at eR rest GH;clear hC;obtain⟨kind,names,op,args,init,node,rs,ev,en,on⟩:=q;dsimp only at*;match names,hn with
 |s::ns,_=>
 have gs:(cW (s::ns)).getD 0 []=[.str s]:=rfl;have QS:aw ⟨kind,s::ns,op,args,init,node,rs,ev,en,on⟩=s:=rfl;rw[QS,AT ah s [47]]at rest GH;rw[QS]at wJ;simp only[QS,AT ah s [47]]at eR;cases rs
 .have GH:K=K1:=by simp_all
  subst GH;refine tQ (tM @jS.eq_1 @ak @td @E2 @QO @ann gs @gj.eq_1) (JJ ?_);all_goals(rw[sP];exact⟨BB,amA CT rest⟩)
 .by_cases c0:aZ env (ev,en)=0
  .have GH:K=K1:=by simp_all
   subst GH;have z:=c3 rfl;refine tQ (ey @jS.eq_1 @ak @td @E2 @QO @ann eO z (cL c0 gs @gj.eq_1)) (JJ ?_);all_goals(rw[sP];exact⟨BB,amA CT rest⟩)
  .rw[gr ⟨rfl,c0⟩]at GH;rw[GH]at eR;have z:=c3 rfl;refine tQ (ey @jS.eq_1 @ak @td @E2 @QO @ann eO eR (cL z gs @gj.eq_1)) (JJ (λhn=>?_));all_goals first|(rw[sP];exact⟨BB,amA CT rest⟩)|exact absurd (by assumption) c0
theorem anr:tP (λx:qg=>[J.agg (iF x)]):=λx y h=>by grind[II]
noncomputable def wL(N:Nat):=Nz (λs:qg=>[.agg (iF s)]) λX=>(FF X.r.l X.at_/\X.ah.length<=100000/\Uy X.r.l (aX X.r.l N) (dL X.r.l N) X.at_ X.ah X.x X.K X.env,.int .i64 (wK X.r.l (aX X.r.l N) X.at_ X.ah X.x X.K X.env).2,(wK X.r.l (aX X.r.l N) X.at_ X.ah X.x X.K X.env).1)
theorem ajE{N p m}{r:Mr}{at_}{ah:B3}{K env}{B t}(k:gU B r.k m)(h1:(TK.put B r.k m (K,env)++t)[p]? =some (oM r))(h2:(TK.put B r.k m (K,env)++t)[r.c]? =some (oC r.l))(s:qg)
 (ho:FF r.l at_/\ah.length<=100000/\Uy r.l (aX r.l N) (dL r.l N) at_ ah s K env):
 wL N [.agg [.ptr p 1 0 0,.int .i64 at_,.str ah,.mp m],.agg (iF s)] (TK.put B r.k m (K,env)++t)=⟨True,.int .i64 (wK r.l (aX r.l N) at_ ah s K env).2,TK.put B r.k m (wK r.l (aX r.l N) at_ ah s K env).1++t⟩:=by
 have:=amy (at_:=at_) (ah:=ah) anr (λX=>(FF X.r.l X.at_/\X.ah.length<=100000/\Uy X.r.l (aX X.r.l N) (dL X.r.l N) X.at_ X.ah X.x X.K X.env,J.int .i64 (wK X.r.l (aX X.r.l N) X.at_ X.ah X.x X.K X.env).2,(wK X.r.l (aX X.r.l N) X.at_ X.ah X.x X.K X.env).1)) k h1 h2 s;rw[lU ho]at this;exact this
theorem awA{N:Nat}(hS:ez Tryz.prog 35 (qC N)):ez Tryz.prog 65 (wL N):=by
 refine ez.Vv (d:=λ_=>jO) (ps:=[(28,Nw)]) (I:=[(91,NA),(92,PQ N),(93,amx)]) ⟨Li,BB⟩ ⟨XQ,anq hS,ans,BB⟩ (λ_=>aET) (λ_=>rfl) (λ_ _=>rfl) λX B k gp gc h=>?_;obtain⟨p,⟨l,c,o,kk,st⟩,at_,ah,m,K,env,⟨sk,q⟩⟩:=X;obtain⟨hV,J6,hn,wJ,hO⟩:=h;dsimp only at k gp gc hV J6 hn wJ hO|-;have kh:∀(K1 K2 e:aP) t,(TK.put B kk m (K1,e)++t).set kk ⟨.mp (K2.map n8),0,[]⟩=TK.put B kk m (K2,e)++t:=λK1 K2 e t=>ank (v:=(K1,e)) k K2;have zR:∀(K1 Y e2:aP) t,(TK.put B kk m (K1,Y)++t).set m ⟨.mp (e2.map n8),0,[]⟩=TK.put B kk m (K1,e2)++t:=λK1 Y e2 t=>auY (v:=(K1,Y)) k e2;by_cases k2:sk=2
 .subst k2;have e0:wK l (aX l N) at_ ah ⟨2,q⟩ K env=((K,jR (aw q) (dT K (ah++aw q)) env),0):=by unfold wK;simp_all
  rw[e0];clear hO;obtain⟨kind,names,op,args,init,node,rs,ev,en,on⟩:=q;dsimp only at hn wJ|-;match names,hn with
  |s::ns,_=>
  have gs:(cW (s::ns)).getD 0 []=[.str s]:=rfl;have QS:aw ⟨kind,s::ns,op,args,init,node,rs,ev,en,on⟩=s:=rfl;rw[QS]at wJ|-
  ((refine aM.of ?_);(repeat' (first|((with_reducible refine aM.to ?_);(repeat(simp only[↓rP,rT,rU,aB,au,aO,cN,cX,FL,bw,aH,aS,DR.val,J.one,alive,cellsOf,Nat.reduceEqDiff,Nat.reduceAdd,↓reduceIte,reduceCtorEq,Int.reduceToNat,Int.reduceLE,Nat.reduceLT,TO,jO,ak,AT,UP,jJ.uz,IJ,td,E2,kR k,XJ k,gp,gs,dH,Kd.D4,C3,kH,GN,Hn,lQ,zR,gj,ak])))|((with_reducible refine And.intro ?_ ?_); . omega)|fail)))
  simp_all
 by_cases k3:sk=3
 .subst k3;have e0:wK l (aX l N) at_ ah ⟨3,q⟩ K env=((jR (ah++aw q) (aE env (br q 0)) K,env),0):=by unfold wK;simp_all
  rw[e0];rw[ba (show¬(3:Int)=2 by decide),gr rfl]at hO;obtain⟨wR,UZ⟩:=hO;obtain⟨kind,names,op,args,init,node,rs,ev,en,on⟩:=q;dsimp only at hn wJ wR UZ|-;match names,hn with
  |s::ns,_=>
  match args,wR with
  |(s1,i1)::hs,_=>
  have gs:(cW (s::ns)).getD 0 []=[.str s]:=rfl;have QS:aw ⟨kind,s::ns,op,(s1,i1)::hs,init,node,rs,ev,en,on⟩=s:=rfl;have RV:br ⟨kind,s::ns,op,(s1,i1)::hs,init,node,rs,ev,en,on⟩ 0=(s1,i1):=rfl;rw[QS]at wJ|-;rw[RV]at UZ|-;have UZ:(aE env (s1,i1)).length<=1000:=UZ;have Y:∀t,NA [.agg [.ptr p 1 0 0,.int .i64 at_,.str ah,.mp m],.agg [.str s1,.int .i64 i1]] (TK.put B kk m (K,env)++t)=⟨True,.sl (cC (aE env (s1,i1))),TK.put B kk m (K,env)++t⟩:=λt=>Dh (XJ k) s1 i1;have e2:=yA (aE env (s1,i1));rw[lU (show(aE env (s1,i1)).length<=1000000 by omega)]at e2;generalize aE env (s1,i1)=V at*
  ((refine aM.of ?_);(repeat' (first|((with_reducible refine aM.to ?_);(repeat(simp only[↓rP,rT,rU,aB,au,aO,cN,cX,FL,bw,aH,aS,DR.val,fH,iD,ik,J.bl,bj,bq,cz,b8,bX,dC,J.one,alive,cellsOf,Nat.reduceEqDiff,Nat.reduceAdd,↓reduceIte,reduceCtorEq,Int.reduceToNat,Int.reduceLE,Nat.reduceLeDiff,Nat.reduceLT,Int.reduceBEq,TO,jO,ak,AT,UP,jJ.uz,IJ,td,E2,kR k,gp,gs,Y,e2,dH,Kd.D4,C3,GN,Hn,lQ,kh,gj,ak])))|((with_reducible refine And.intro ?_ ?_); . omega)|fail)))
  simp_all
 by_cases k4:sk=4
 .subst k4;have e0:wK l (aX l N) at_ ah ⟨4,q⟩ K env=pW l (aX l N) ah q K env:=by unfold wK;simp_all
  rw[e0];rw[ba (show¬(4:Int)=2 by decide),ba (show¬(4:Int)=3 by decide),gr rfl]at hO;have Y:∀t,PQ N [.agg [.ptr p 1 0 0,.int .i64 at_,.str ah,.mp m],.agg (iK q)] (TK.put B kk m (K,env)++t)=⟨True,.int .i64 (pW l (aX l N) ah q K env).2,TK.put B kk m (pW l (aX l N) ah q K env).1++t⟩:=λt=>aaB (r:=⟨l,c,o,kk,st⟩) k (gp _ _) (gc _ _) q ⟨hV.1,J6,hn,wJ,hO⟩;clear hO;generalize pW l (aX l N) ah q K env=An at*;obtain⟨kind,names,op,args,init,node,rs,ev,en,on⟩:=q;dsimp only at hn wJ Y|-;match names,hn with
  |s::ns,_=>
  have gs:(cW (s::ns)).getD 0 []=[.str s]:=rfl;have QS:aw ⟨kind,s::ns,op,args,init,node,rs,ev,en,on⟩=s:=rfl;rw[QS]at wJ;refine tQ (rO @jO.eq_1 @ak @td @E2 gs Y @gj.eq_1) (JJ ?_);simp_all
 .have e0:wK l (aX l N) at_ ah ⟨sk,q⟩ K env=((K,jR (aw q) (aN (ad l at_) [] env q).1 env),(aN (ad l at_) [] env q).2):=by unfold wK;simp_all
  rw[e0];rw[ba k2,ba k3,ba k4]at hO;obtain⟨h5,h7,hO⟩:=hO;have Y:=λt=>aaC (ah:=ah) (p:=p) (r:=⟨l,c,o,kk,st⟩) (XJ (t:=t) (v:=(K,env)) k) (gp _ _) (gc _ _) q hV h5 h7 hO;have I:=aCw (f:=ad l at_) (m:=[]) (env:=env) h7;clear hO;generalize lR (ad l at_) [] env q=D at*;generalize aN (ad l at_) [] env q=An at*;obtain⟨kind,names,op,args,init,node,rs,ev,en,on⟩:=q;dsimp only at hn wJ Y h5 h7|-;match names,hn with
  |s::ns,_=>
  have gs:(cW (s::ns)).getD 0 []=[.str s]:=rfl;have QS:aw ⟨kind,s::ns,op,args,init,node,rs,ev,en,on⟩=s:=rfl;rw[QS]at wJ|-
  ((have aF:=IT;refine aM.of ?_);(repeat' (first|((with_reducible refine aM.to ?_);(repeat(simp only[↓rP,rT,rU,bC,aB,au,aO,cN,cX,FL,bw,aH,aS,DR.val,J.one,alive,cellsOf,setFrom,J.D1,Nat.reduceEqDiff,Nat.reduceAdd,↓reduceIte,reduceCtorEq,Int.reduceToNat,Int.reduceLE,Nat.reduceLeDiff,Nat.reduceLT,TO,jO,ak,AT,UP,jJ.uz,IJ,td,E2,XJ k,gs,Y,I,dH,Kd.D4,C3,Hn,lQ,zR,gj,ak,aF])))|((with_reducible refine And.intro ?_ ?_); . omega)|(((((with_reducible refine cP (t:= ?_) ?_ (λdp=>?_) (λdp=>?_));rotate_left; . (rfl)))<;>(have hn:=dp;have aF:=dp)<;>(try simp only[GO,Br,SO]at hn)<;>(try(exfalso;omega))<;>(refine aM.of ?_)))|fail)))
  simp_all
theorem ant(l:List qg):∀(G:List ZN) (n:Nat),G.length<=n->(∀b∈G,b.body.length<=n)->(l.foldl Uz G).length<=n+l.length/\∀b∈l.foldl Uz G,b.body.length<=n+l.length:=by
 induction l with
 |nil=>simp_all
 |cons s l ih=>
  intro G n h1 h2;have key:(Uz G s).length<=n+1/\∀b∈Uz G s,b.body.length<=n+1:=by rcases Di G s with h|⟨G',b,rfl,_,h⟩<;>grind
  obtain⟨k1,k2⟩:=ih (Uz G s) (n+1) key.1 key.2;grind
theorem anu{f:Fl}(h:f.eqs.length<=1000000):(qy (lg f)).length<=2000000/\∀b∈qy (lg f),b.body.length<=2000000:=by obtain⟨h1,h2⟩:=ant (lg f) [] 0 (By _) (by simp);grind[lg,List.length_filter_le,wz,qy]
theorem ajF{l:cT}{rec:FQ}{at_:Int}{ah:B3}(b:ZN)(r:List ZN)(K env:aP):lr l rec at_ ah (b::r) K env=if bn env b.on then iO (uA l rec at_ ah b.body K env) (lr l rec at_ ah r)else lr l rec at_ ah r K env:=rfl
theorem ajG{l:cT}{rec:FQ}{at_:Int}{ah:B3}(s:qg)(r:List qg)(K env:aP):uA l rec at_ ah (s::r) K env=iO (wK l rec at_ ah s K env) (uA l rec at_ ah r):=rfl
theorem awB:ez Tryz.prog 35 (qC 0):=by refine ez.Vv (d:=λ_=>mu) (ps:=[]) (I:=[]) trivial trivial (λ_=>axK) (λ_=>rfl) (λ_ _=>rfl) λX B k gp gc h=>?_;exact absurd h.2 id
theorem awC{N:Nat}(hS:ez Tryz.prog 35 (qC N)):ez Tryz.prog 35 (qC (N+1)):=by
 refine ez.Vv (d:=λ_=>mu) (ps:=[]) (I:=[(64,IK),(65,wL N)]) trivial ⟨ajH,awA hS,BB⟩ (λ_=>axK) (λ_=>rfl) (λ_ _=>rfl) λX B k gp gc h=>?_;obtain⟨p,⟨l,c,o,kk,st⟩,at_,ah,m,K,env,u⟩:=X;obtain⟨hw,h0,h1,J6,hN,hO⟩:=h;dsimp only at k gp gc hw h0 h1 J6 hN hO|-;obtain⟨cg,cl⟩:=yz h0 h1;have zQ:=nI l;simp only[E1]at cg;have aDI:ah.length<=100000:=by omega
 have hb:aX l (N+1) at_ ah K env=lr l (aX l N) at_ ah (qy (lg (ad l at_))) K env:=rfl;rw[hb];clear hb;have fm:ad l at_∈l.fs:=by simp_all[ad,ed]
 obtain⟨hB1,hB2⟩:=anu (hw.2 _ fm);have aKc:∀(K e:aP) (s:qg) t,Uy l (aX l N) (dL l N) at_ ah s K e->wL N [.agg [.ptr p 1 0 0,.int .i64 at_,.str ah,.mp m],.agg (iF s)] (TK.put B kk m (K,e)++t)=⟨True,.int .i64 (wK l (aX l N) at_ ah s K e).2,TK.put B kk m (wK l (aX l N) at_ ah s K e).1++t⟩:=λK e s t ho=>ajE (r:=⟨l,c,o,kk,st⟩) k (gp _ _) (gc _ _) s ⟨⟨hw,h0,h1⟩,aDI,ho⟩;have hR:∀(K e:aP) (on:List gT) t,on.length<=1000->IK [.agg [.ptr p 1 0 0,.int .i64 at_,.str ah,.mp m],.sl (on.map eD)] (TK.put B kk m (K,e)++t)=⟨True,.bool (bn e on),TK.put B kk m (K,e)++t⟩:=λK e on t ho=>aJ6 (XJ k) ho;generalize qy (lg (ad l at_))=BQ at*;generalize aQ l at_=S at*;generalize ad l at_=f at*;refine tQ (ey @mu.eq_1 @td gp gc h0 h1 cg cl zQ) (JJ ?_);refine aj BQ (λj (x:(aP×aP)×List ae)=>⟨[(1,.ptr B.length 1 0 0),(17,.sl (BQ.map Rf)),(18,.int .i64 BQ.length),(19,.int .i64 j)],TK.put B kk m x.1++(⟨.loc,4,[Nx p at_ ah m]⟩::x.2)⟩)
  (λj r x=>kc l (aX l N) (dL l N) at_ ah r x.1.1 x.1.2/\lr l (aX l N) at_ ah r x.1.1 x.1.2=lr l (aX l N) at_ ah BQ K env) ((K,env),[]) trivial CT ⟨hO,rfl⟩ (λj b r x d U Z E=>?_) (λj x ej E=>?_)
 .obtain⟨⟨K1,Y⟩,G⟩:=x;obtain⟨⟨r1,r2⟩,r3⟩:=E;dsimp only at r1 r2 r3;rw[ajF]at r3;have gb:=ag Rf U;have h2:=λt=>hR K1 Y b.on t r1;have hB3:=hB2 b (ed U);obtain⟨on,body⟩:=b;dsimp only at r1 r2 r3 h2 hB3;cases c0:bn Y on
  .rw[c0]at h2 r2 r3;simp only[AN,Bv]at r2 r3;refine tQ (jg d gb @td @ka @QP h2) (JJ ?_);all_goals exact⟨((K1,Y),_),CT,r2,r3⟩
  .rw[c0]at h2 r2 r3;simp only[Bp]at r2 r3;obtain⟨r4,r5⟩:=r2;refine tQ (jg d gb @td @ka @QP h2) (JJ ?_);refine aj body (λi (x:(aP×aP)×List ae)=>⟨[(1,.ptr B.length 1 0 0),(17,.sl (BQ.map Rf)),(18,.int .i64 BQ.length),(19,.int .i64 j),(29,.sl (body.map iF)),(30,.int .i64 body.length),(31,.int .i64 i)],TK.put B kk m x.1++(⟨.loc,4,[Nx p at_ ah m]⟩::x.2)⟩)
    (λi r x=>xV l (aX l N) (dL l N) at_ ah r x.1.1 x.1.2/\uA l (aX l N) at_ ah r x.1.1 x.1.2=uA l (aX l N) at_ ah body K1 Y) ((K1,Y),_) trivial CT ⟨r4,rfl⟩ (λi s r' x d2 Ll Ek Dj=>?_) (λi x ei Dj=>?_)
   .obtain⟨⟨K2,e2⟩,aKd⟩:=x;obtain⟨⟨q1,q2⟩,q3⟩:=Dj;dsimp only at q1 q2 q3;rw[ajG]at q3;have gs:=ag iF Ll;have h3:=λt=>aKc K2 e2 s t q1;generalize wK l (aX l N) at_ ah s K2 e2=D at*;obtain⟨⟨aKe,aKf⟩,aKg⟩:=D;obtain⟨sk,⟨kind,names,op,args,init,node,rs,ev,en,Lo⟩⟩:=s;dsimp only at h3 q2;simp only[iF]at h3;unfold iO at q3 r3;by_cases c2:aKg=0
    .rw[gr c2]at q3;subst c2;refine tQ (jg d2 gs @td @ka @QP h3) (JJ ?_);all_goals exact⟨((aKe,aKf),_),CT,q2 rfl,q3⟩
    .rw[ba c2]at q3;rw[<-q3,ba c2]at r3;rw[<-r3];refine tQ (jg d2 gs @td @ka @QP h3) (JJ (λhn=>?_));simp_all
   .obtain⟨⟨K2,e2⟩,aKd⟩:=x;obtain⟨_,q3⟩:=Dj;have q3:((K2,e2),(0:Int))=uA l (aX l N) at_ ah body K1 Y:=q3;rw[<-q3]at r3 r5;have r5:=r5 rfl;have r3:lr l (aX l N) at_ ah r K2 e2=lr l (aX l N) at_ ah BQ K env:=r3;refine ao @ei (JJ ?_);all_goals exact⟨((K2,e2),_),CT,r5,r3⟩
 .obtain⟨⟨K1,Y⟩,G⟩:=x;obtain⟨_,r3⟩:=E;have r3:((K1,Y),(0:Int))=lr l (aX l N) at_ ah BQ K env:=r3;rw[<-r3];refine tQ @ej (JJ ?_);simp_all
theorem anh(N:Nat):ez Tryz.prog 35 (qC N):=by induction N<;>simp_all[awB,awC]
end Go.Proofs.YtldnkkkooabaeaaGreat

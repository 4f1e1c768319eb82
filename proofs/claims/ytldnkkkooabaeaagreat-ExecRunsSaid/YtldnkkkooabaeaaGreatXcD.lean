/- A map that is copied: at the world's level, and as a function on the heap (26). -/
import Derived.Shelf.SlMaps.Clone
import Derived.Tactics
import Derived.Tactics2
import Derived.Laws.Externs
import Derived.Test.YtldnkkkooabaeaaGreatXbB
set_option maxHeartbeats 8000000
set_option linter.all false
set_option maxRecDepth 20000
namespace Go.Proofs.YtldnkkkooabaeaaGreat
open Go.Nk Go.RowKit
theorem aeG(b)(es:Array MapEntry)(clock)(w:World)(hb:w.heap[b]? =some (.map es clock)):
 Calls Tryz.prog 34 #[.map (some b)] w λe w'=>e= .returned (.map (some w.heap.size))/\w'=w.alloc (.map es clock):=by
 have hq:=λw=>run_eql_map_nil_sl (P:=Tryz.prog) w 81 _ _ (some b) Tryz.underlying81
 go_enter Tryz.func34,Tryz.ntmps34
 go_wp2
 rw[run_callFunc_extern Tryz.func63 (by kernel_rfl) (by kernel_rfl) (by kernel_rfl) (e:=Extern.MapsClone.clone) (by kernel_rfl),run_maps_clone_sl w 81 hb];simp only[Result.andThen];rw[Oper.upon_value]
 go_wp2
 rw[run_typeAssert_map_sl _ 81 20 _ _ _ Tryz.underlying81];simp only[Result.andThen];rw[Oper.upon_value]
 go_wp2
 go_ret
 exact⟨rfl,rfl⟩
theorem anv [Inhabited Env]{K F}{σ}{B:List ae}{w:World}{n}{es}(I:bH K F σ B w)(h:B[n]? =some ⟨.mp es,0,[]⟩){v}(hv:aC F σ B w (.mp n) v):
 ∃g c q,v= .map (some g)/\w.heap[g]? =some (.map c q)/\dM K F σ B w (.mp B.length) (B++[⟨.mp es,0,[]⟩]) (.map (some w.heap.size)) (w.alloc (.map c q)):=by
 have he:dH B (.mp n)=some es:=by simp[dH,h,Kd.D4]
 obtain⟨n',ob,g,c,q,Y,eX,D5,e0,hg,nF0,nK0,U,hh,lP,hc⟩:=xj I hv he;refine⟨g,c,q,U,hh,?_⟩;have cg:FN K F σ B w B.length ⟨.mp es,0,[]⟩ F (λx=>if x=B.length then some w.heap.size else σ x) (B++[⟨.mp es,0,[]⟩]) (w.alloc (.map c q)):=
  {os:=rfl,tape:=rfl,output:=rfl,size:=by simp,hF:=λ_ h=>h,newF:=λ_ h=> .inl h,OS:=λb h=>by have:=I.fb b h;simp;omega
   heap:=λb h _=>iZ _ b h,Dk:= .inr ⟨rfl,rfl⟩,sig:=λh' bP=>by simp[bP],z7:=λg hg=> .inr (by simp at hg;omega),grow:=λoh tR=>by simp at tR}
 have nF:¬F w.heap.size:=λh=>by have:=I.fb _ h;omega
 have nK:¬K w.heap.size:=λh=>by have:=I.kb _ h;omega
 have hm:=cg.hm I;refine⟨F,_,cg.D2 I ?_,cg.vb I,hm,.mp _ _ rfl (by simp) λob eX _ _=>⟨w.heap.size,by simp,rfl⟩⟩;unfold gv;exact⟨⟨rfl,rfl⟩,w.heap.size,by simp,nF,nK,c,q,heap_alloc_new _ _,lP,λi x U=>let⟨e',a1,a2,a3⟩:=hc i x U;⟨e',a1,a2,a3.1.mono hm.mono hm.ck,a3.2⟩⟩
noncomputable def ID:Ab->List ae->o9:=iY (λ(x:Nat×List (B3×J)×Nat) a B=>a=[.mp x.1]/\B[x.1]? =some ⟨.mp x.2.1,0,[]⟩/\x.2.2=B.length) (λx=>(True,.mp x.2.2)) λx B=>B++[⟨.mp x.2.1,0,[]⟩]
theorem aaw{B:List ae}{n}{es}(h:B[n]? =some ⟨.mp es,0,[]⟩):ID [.mp n] B=⟨True,.mp B.length,B++[⟨.mp es,0,[]⟩]⟩:=by
 refine fh (x:=(n,es,B.length)) ?_ ⟨rfl,h,rfl⟩
 rintro⟨n1,Y,l1⟩ ⟨n2,e2,l2⟩ a B ⟨rfl,h1,rfl⟩ ⟨h,h2,rfl⟩
 simp only[DO,J.mp.injEq,Xv]at h;subst h;have:=abc (h1.symm.trans h2);simp only[ae.mk.injEq,Kd.mp.injEq,Xv]at this;rw[this]
theorem ajA:ez Tryz.prog 34 ID:=by
 intro a B bE;unfold ID iY at bE|-;split at bE;rotate_left
 .exact bE.elim
 rename_i U;rw[CV U];have hy:=U.choose_spec;generalize U.choose=y at*;obtain⟨n,es,L⟩:=y;obtain⟨rfl,hh,rfl⟩:=hy;refine⟨by kernel_rfl,?_⟩;intro K F σ w args I ha;obtain⟨v0,rfl,aJ5⟩:=azC ha;obtain⟨g,c,q,rfl,hb,hg⟩:=anv I hh aJ5;refine(aeG g c q w hb).mono ?_
 rintro e w' ⟨rfl,rfl⟩
 exact⟨_,rfl,hg⟩
open Go.Nk
@[reducible] def gh(e:aP):ae:=⟨.mp (e.map n8),0,[]⟩
theorem PM{e e'}(h:gh e=gh e'):e=e':=by simp only[gh,ae.mk.injEq,Kd.mp.injEq,Xv]at h;exact List.map_inj_right (λx y=>aaF x y)|>.1 h
@[reducible] def Nx(p:Nat)(at_:Int)(ah:B3)(m:Nat):Ab:=[.ptr p 1 0 0,.int .i64 at_,.str ah,.mp m]
structure X0(α:Type) where
 p:Nat
 at_:Int
 ah:B3
 m:Nat
 env:aP
 x:α
def FrR{α:Type}(c:α->Ab)(args:α->Ab)(X:X0 α)(a:Ab)(B:List ae):Prop:=a= .agg (Nx X.p X.at_ X.ah X.m++c X.x)::args X.x/\B[X.m]? =some (gh X.env)
def Rh{α:Type}(c args:α->Ab):Prop:=∀x y,c x=c y->args x=args y->x=y
theorem Rh.of{α}{args:α->Ab}(h:tP args):Rh (λ_=>[]) args:=λx y _ e=>h x y e
noncomputable def NB{α:Type}(c:α->Ab)(args:α->Ab)(f:X0 α->Prop×J):Ab->List ae->o9:=iY (FrR c args) f λ_ B=>B
theorem yG{α}{c args:α->Ab}(ha:Rh c args)(f:X0 α->Prop×J){p m}{at_}{ah}{env}{B}(h:B[m]? =some (gh env))(x:α):
 NB c args f (.agg (Nx p at_ ah m++c x)::args x) B=⟨(f ⟨p,at_,ah,m,env,x⟩).1,(f ⟨p,at_,ah,m,env,x⟩).2,B⟩:=by
 refine fh (x:=(⟨p,at_,ah,m,env,x⟩:X0 α)) ?_ ⟨rfl,h⟩
 rintro⟨p1,a1,b1,m1,Y,x1⟩ ⟨p2,a2,b2,m2,e2,x2⟩ a B ⟨rfl,h1⟩ ⟨h,h2⟩
 simp only[Nx,Cr,Bz,DO,J.agg.injEq,J.ptr.injEq,J.int.injEq,J.str.injEq,J.mp.injEq,Bt,Xv]at h;obtain⟨⟨rfl,rfl,rfl,rfl,hc⟩,U⟩:=h;have:=ha _ _ hc U;subst this;have e:=PM (abc (h1.symm.trans h2));dsimp only at e;rw[e]
theorem ez.X1{ps I}{fn}{d:ay}{N}{α}{c args:α->Ab}{f:X0 α->Prop×J}(h1:sf Tryz.prog ps)(h2:si Tryz.prog I)(hm:mT Tryz.prog fn N d=true)(hN:∀x,(args x).length+1=N)(hb:∀X n,((f X).2).qA n=true)
 (k:∀(X:X0 α) (B:List ae),(∀t,(B++t)[X.m]? =some (gh X.env))->(f X).1->
  gP (dJ.of ps I) B.length d.code (λe s=>(match e with| .exit _=>False|_=>(aS s d.res).1/\(aS s d.res).2=(f X).2/\∃t,s.B=B++t)) ⟨(0,.agg (Nx X.p X.at_ X.ah X.m++c X.x))::aO 1 (args X.x),B++[]⟩):ez Tryz.prog fn (NB c args f):=by
 refine ez.I0 h1 h2 hm (λx a B h=>by rw[h.1,IS,hN]) λX a B h lO=>?_;obtain⟨rfl,hm⟩:=h;have hl:=(pc.1 hm).1;have:=k X B (λt=>by rw[OR hl];exact hm) lO;rw[xz]at this;refine yC (λe s hq=>?_) this;have key:((aS s d.res).1/\(aS s d.res).2=(f X).2/\∃t,s.B=B++t)->((aS s d.res).1/\(aS s d.res).2=(f X).2/\((f X).2).qA B.length=true/\B.length=B.length/\(∃t,s.B=B++t)/\∀(i:Nat) (o:ae),B[i]? =some o->B[i]? =some o\/o.cut B.length=o):=λ⟨q1,q2,q3⟩=>⟨q1,q2,hb _ _,rfl,q3,λi o h=> .inl h⟩;cases e with
 |normal=>exact key hq
 |exit id=>exact hq.elim
 |ret=>exact key hq
section
variable {B g t:List ae} {o o' x y z b:ae}
theorem aam:(B++(x::y::o::t))[B.length+2]? =some o:=by rw[IF (by simp)];simp
theorem aak:(B++(x::y::z::o::t))[B.length+3]? =some o:=by rw[IF (by simp)];simp
theorem anm:(B++(x::y::z::b::o::t))[B.length+4]? =some o:=by rw[IF (by simp)];simp
theorem aan:(B++(x::y::o::t)).set (B.length+2) o'=B++(x::y::o'::t):=by rw[aab _ _ (by simp)];simp
theorem aal:(B++(x::y::z::o::t)).set (B.length+3) o'=B++(x::y::z::o'::t):=by rw[aab _ _ (by simp)];simp
theorem ano:(B++(x::y::z::b::o::t)).set (B.length+4) o'=B++(x::y::z::b::o'::t):=by rw[aab _ _ (by simp)];simp
theorem aeB:(B++(x::(g++(o::t))))[B.length+(g.length+1)]? =some o:=by rw[IF (by omega),V5,XD];simp
theorem ams:(B++(x::(g++(o::t)))).set (B.length+(g.length+1)) o'=B++(x::(g++(o'::t))):=by rw[aab _ _ (by omega),V5,List.set_cons_succ,aab _ _ (by omega)];simp
theorem asj:(B++(x::y::(g++(o::t))))[B.length+(g.length+1+1)]? =some o:=by rw[IF (by omega),V5,XD,XD];simp
theorem am4:(B++(x::y::(g++(o::t)))).set (B.length+(g.length+1+1)) o'=B++(x::y::(g++(o'::t))):=by rw[aab _ _ (by omega),V5,List.set_cons_succ,List.set_cons_succ,aab _ _ (by omega)];simp
end
noncomputable def NA:=NB (λ_=>[]) (λa:gT=>[.agg (eD a)]) λX=>(True,.sl (cC (aE X.env X.x)))
theorem Dh{B:List ae}{p m:Nat}{at_:Int}{ah:B3}{env:aP}(h:B[m]? =some (gh env))(s:B3)(i:Int):NA [.agg [.ptr p 1 0 0,.int .i64 at_,.str ah,.mp m],.agg [.str s,.int .i64 i]] B=⟨True,.sl (cC (aE env (s,i))),B⟩:=yG (.of XR) _ h (s,i)
theorem XQ:ez Tryz.prog 91 NA:=by
 refine ez.X1 (ps:=[]) (I:=[]) trivial trivial aFH (λ_=>rfl) (λ_ _=>rfl) λX B g h=>?_;obtain⟨p,at_,ah,m,env,s,i⟩:=X;dsimp only at g|-;by_cases c:s=[]
 .subst c;have h2:aE env (([]:B3),i)=[i]:=by simp[aE]
  refine sM (cL @tS.eq_1 h2 @cC.eq_1) (JJ ?_);all_goals exact⟨_,rfl⟩
 .have h2:aE env (s,i)=dT env s:=by simp[aE,c]
  refine sM (fF @tS.eq_1 g @C3.{0,0} @kH h2) (bV ?_ (JJ ?_))<;>intros;all_goals exact⟨_,rfl⟩
noncomputable def aeD:=NB (λ_=>[]) (λa:gT=>[.agg (eD a)]) λX=>(aE X.env X.x≠[],.int .i64 (aZ X.env X.x))
theorem oJ{env:aP}{a:gT}(h:¬aE env a=[]):(cC (aE env a)).getD 0 []=[.int .i64 (aZ env a)]/\0<(aE env a).length:=by
 cases hv:aE env a with
 |nil=>exact absurd hv h
 |cons x r=>simp[cC,aZ,hv]
theorem aso:ez Tryz.prog 117 aeD:=by refine ez.X1 (ps:=[]) (I:=[(91,NA)]) trivial ⟨XQ,BB⟩ aGm (λ_=>rfl) (λ_ _=>rfl) λX B g h=>?_;obtain⟨p,at_,ah,m,env,s,i⟩:=X;dsimp only at g h|-;obtain⟨g0,hlen⟩:=oJ h;have Y:=λt=>Dh (p:=p) (at_:=at_) (ah:=ah) (g t) s i;refine sM (fj @avj.eq_1 @aU Y g0) (JJ ?_);all_goals exact⟨_,rfl⟩
noncomputable def IK:=NB (λ_=>[]) (λon:List gT=>[.sl (on.map eD)]) λX=>(X.x.length<=1000,.bool (bn X.env X.x))
theorem aJ6{B}{p m}{at_}{ah}{env}(h:B[m]? =some (gh env)){on:List gT}(ho:on.length<=1000):IK [.agg [.ptr p 1 0 0,.int .i64 at_,.str ah,.mp m],.sl (on.map eD)] B=⟨True,.bool (bn env on),B⟩:=by have:=yG (p:=p) (at_:=at_) (ah:=ah) (.of aaG) (λX=>(X.x.length<=1000,J.bool (bn X.env X.x))) h on;rw[lU ho]at this;exact this
theorem ajH:ez Tryz.prog 64 IK:=by
 refine ez.X1 (ps:=[(90,XU)]) (I:=[]) ⟨anw,BB⟩ trivial aES (λ_=>rfl) (λ_ _=>rfl) λX B g h=>?_;obtain⟨p,at_,ah,m,env,on⟩:=X;dsimp only at g h|-;have key:∀l,bn env l=l.all (QT env):=λ_=>rfl;refine sM @atL.eq_1 (JJ ?_);refine aj on (λj (G:List ae)=>⟨[(2,.ptr B.length 1 0 0),(7,.sl (on.map eD)),(8,.int .i64 on.length),(9,.int .i64 j)],B++(⟨.loc,4,[Nx p at_ ah m]⟩::G)⟩) (λj r _=>r.all (QT env)=bn env on) [] trivial CT rfl (λj x r G d U Z E=>?_) (λj G e E=>?_)
 .rw[MM]at E;obtain⟨s,i⟩:=x;have ga:=ag eD U;have Y:=aeI (dT env s) [i];have e2:decide (dT env s=[i])=QT env (s,i):=rfl;rw[e2]at Y;simp only[cC,p0,DD]at Y;cases c:QT env (s,i)
  .rw[c]at Y E;rw[C4]at E;refine sM (ey d ga g @C3.{0,0} @kH @cC.eq_1 @aeB @ams (bV Y (CD E))) (JJ ?_);all_goals exact⟨_,rfl⟩
  .rw[c]at Y E;rw[Pd]at E;refine sM (ey d ga g @C3.{0,0} @kH @cC.eq_1 @aeB @ams Y) (JJ ?_);all_goals exact⟨_,CT,E⟩
 .rw[C1]at E;refine ao (bV e (CD E)) (JJ ?_);all_goals exact⟨_,rfl⟩
structure Mr where
 l:cT
 c:Nat
 o:Nat
 k:Nat
 steps:Int
def mN(l:cT):BS:=(aQ l ((l.fs.length:Int)-1)).map (·.path)
@[reducible] def azD(r:Mr):Ab:=[.sl (r.l.enums.map kF),.sl (r.l.fs.map lf),.own r.c r.l.fs.length 0 r.l.fs.length,.own r.o (mN r.l).length 0 (mN r.l).length,.mp r.k,.int .i64 r.steps]
@[reducible] def oM(r:Mr):ae:=⟨.loc,6,[azD r]⟩
theorem XE{r r':Mr}(h:oM r=oM r'):r=r':=by obtain⟨⟨en,fs⟩,c,o,k,n⟩:=r;obtain⟨⟨en',fs'⟩,c',o',k',n'⟩:=r';simp only[oM,azD,ae.mk.injEq,DO,J.sl.injEq,J.own.injEq,J.mp.injEq,J.int.injEq,Bt,Xv]at h;obtain⟨h1,h2,h3,h4,rfl,rfl⟩:=h;rw[map_inj sN _ _ h1,map_inj Dg _ _ h2];obtain⟨rfl,_⟩:=h3;obtain⟨rfl,_⟩:=h4;rfl
@[reducible] def E1(l:cT)(i:Int):Ab:=[.str (ad l i).name,.sl ((ad l i).ins.map eu),.sl ((ad l i).outs.map eu),.sl ((ad l i).vars.map eu),.sl ((ad l i).eqs.map iK),.sl ((qy (lg (ad l i))).map Rf),.sl ((aQ l i).map bf)]
def qx(l:cT):List Ab:=(List.range l.fs.length).map λi:Nat=>E1 l (i:Int)
theorem nI(l:cT):(qx l).length=l.fs.length:=by simp[qx]
theorem yz{l:cT}{i:Int}(h0:0<=i)(h1:i<l.fs.length):(qx l).getD i.toNat []=E1 l i/\i.toNat<l.fs.length:=by
 have h2:i.toNat<l.fs.length:=by omega
 refine⟨?_,h2⟩;simp only[qx,BY,M9,List.getElem?_range h2,Ka,S1];rw[show((i.toNat:Nat):Int)=i by omega]
@[reducible] def oC(l:cT):ae:=⟨.aV,7,qx l⟩
structure UY(α:Type) where
 p:Nat
 r:Mr
 at_:Int
 ah:B3
 m:Nat
 env:aP
 x:α
def jt{α:Type}(c:α->Ab)(args:α->Ab)(X:UY α)(a:Ab)(B:List ae):Prop:=
 a= .agg (Nx X.p X.at_ X.ah X.m++c X.x)::args X.x/\B[X.m]? =some (gh X.env)/\B[X.p]? =some (oM X.r)/\B[X.r.c]? =some (oC X.r.l)
noncomputable def Qz{α:Type}(c:α->Ab)(args:α->Ab)(f:UY α->Prop×J):Ab->List ae->o9:=iY (jt c args) f λ_ B=>B
theorem jt.u{α}{c args:α->Ab}(ha:Rh c args):∀(X Cp:UY α) (a:Ab) (B:List ae),jt c args X a B->jt c args Cp a B->X=Cp:=by
 rintro⟨p1,r1,a1,b1,m1,Y,x1⟩ ⟨p2,r2,a2,b2,m2,e2,x2⟩ a B ⟨rfl,h1,h3,_⟩ ⟨h,h2,h4,_⟩
 simp only[Nx,Cr,Bz,DO,J.agg.injEq,J.ptr.injEq,J.int.injEq,J.str.injEq,J.mp.injEq,Bt,Xv]at h;obtain⟨⟨rfl,rfl,rfl,rfl,hc⟩,U⟩:=h;have:=ha _ _ hc U;subst this;have e:=PM (abc (h1.symm.trans h2));have e':=XE (abc (h3.symm.trans h4));dsimp only at e e';rw[e,e']
theorem amt{α:Type}{c args:α->Ab}(ha:Rh c args)(f:UY α->Prop×J){p m:Nat}{r:Mr}{at_:Int}{ah:B3}{env:aP}{B:List ae}(h:B[m]? =some (gh env))(h1:B[p]? =some (oM r))(h2:B[r.c]? =some (oC r.l))(x:α):
 Qz c args f (.agg (Nx p at_ ah m++c x)::args x) B=⟨(f ⟨p,r,at_,ah,m,env,x⟩).1,(f ⟨p,r,at_,ah,m,env,x⟩).2,B⟩:=
 fh (x:=(⟨p,r,at_,ah,m,env,x⟩:UY α)) (jt.u ha) ⟨rfl,h,h1,h2⟩
theorem ez.awp{ps I}{fn}{d:ay}{N}{α}{c args:α->Ab}{f:UY α->Prop×J}(h1:sf Tryz.prog ps)(h2:si Tryz.prog I)(hm:mT Tryz.prog fn N d=true)(hN:∀x,(args x).length+1=N)(hb:∀X n,((f X).2).qA n=true)
 (k:∀(X:UY α) (B:List ae),(∀t,(B++t)[X.m]? =some (gh X.env))->(∀t,(B++t)[X.p]? =some (oM X.r))->(∀t,(B++t)[X.r.c]? =some (oC X.r.l))->(f X).1->
  gP (dJ.of ps I) B.length d.code (λe s=>(match e with| .exit _=>False|_=>(aS s d.res).1/\(aS s d.res).2=(f X).2/\∃t,s.B=B++t)) ⟨(0,.agg (Nx X.p X.at_ X.ah X.m++c X.x))::aO 1 (args X.x),B++[]⟩):ez Tryz.prog fn (Qz c args f):=by
 refine ez.I0 h1 h2 hm (λx a B h=>by rw[h.1,IS,hN]) λX a B h lO=>?_;obtain⟨rfl,g1,g2,g3⟩:=h;have ap:∀{i:Nat} {o:ae},B[i]? =some o->∀t,(B++t)[i]? =some o:=λe t=>by rw[OR (pc.1 e).1];exact e
 have:=k X B (ap g1) (ap g2) (ap g3) lO;rw[xz]at this;refine yC (λe s hq=>?_) this;have key:((aS s d.res).1/\(aS s d.res).2=(f X).2/\∃t,s.B=B++t)->((aS s d.res).1/\(aS s d.res).2=(f X).2/\((f X).2).qA B.length=true/\B.length=B.length/\(∃t,s.B=B++t)/\∀(i:Nat) (o:ae),B[i]? =some o->B[i]? =some o\/o.cut B.length=o):=λ⟨q1,q2,q3⟩=>⟨q1,q2,hb _ _,rfl,q3,λi o h=> .inl h⟩;cases e with
 |normal=>exact key hq
 |exit id=>exact hq.elim
 |ret=>exact key hq
theorem anx:Rh (λx:Pl×Int=>iK x.1) (λx=>[J.int .i64 x.2]):=λx y h h2=>by obtain⟨a,b⟩:=x;obtain⟨a',b'⟩:=y;simp only[DO,J.int.injEq,Bt,Xv]at h2;have h3:a=a':=z8 _ _ h;rw[h3,h2]
noncomputable def qE:=NB (λx:Pl×Int=>iK x.1) (λx=>[.int .i64 x.2]) λX=>(0<=X.x.2/\X.x.2<X.x.1.args.length,.sl (cC (aE X.env (br X.x.1 X.x.2.toNat))))
theorem z9{B}{p m}{at_}{ah}{env}(h:B[m]? =some (gh env))(q:Pl){i:Int}(h0:0<=i)(h1:i<q.args.length):
 qE [.agg [.ptr p 1 0 0,.int .i64 at_,.str ah,.mp m,.int .i64 q.kind,.sl (cW q.names),.int .i64 q.op,.sl (q.args.map eD),.sl (cC q.init),.int .i64 q.node,.bool q.reset,.str q.ev,.int .i64 q.en,.sl (q.on.map eD)],.int .i64 i] B=⟨True,.sl (cC (aE env (br q i.toNat))),B⟩:=by
 have:=yG (p:=p) (at_:=at_) (ah:=ah) anx (λX=>(0<=X.x.2/\X.x.2<X.x.1.args.length,J.sl (cC (aE X.env (br X.x.1 X.x.2.toNat))))) h (q,i);rw[lU (show 0<=i/\i<q.args.length from⟨h0,h1⟩)]at this;exact this
theorem PR:ez Tryz.prog 120 qE:=by
 refine ez.X1 (ps:=[]) (I:=[(91,NA)]) trivial ⟨XQ,BB⟩ aGo (λ_=>rfl) (λ_ _=>rfl) λX B g h=>?_;obtain⟨p,at_,ah,m,env,⟨kind,names,op,args,init,node,rs,ev,en,on⟩,i⟩:=X;obtain⟨h0,h1⟩:=h;dsimp only at g h0 h1|-;obtain⟨n,rfl⟩:=Cy h0;have h2:n<args.length:=by omega
 obtain⟨⟨s,j⟩,U⟩:∃x,args[n]? =some x:=⟨args[n],tx h2⟩;have gx:=ag eD U;have ga:br ⟨kind,names,op,args,init,node,rs,ev,en,on⟩ (n:Int).toNat=(s,j):=iu U;rw[ga];have Y:=λt=>Dh (p:=p) (at_:=at_) (ah:=ah) (g t) s j;refine sM (fj @avk.eq_1 h2 gx Y) (JJ ?_);all_goals exact⟨_,rfl⟩
theorem PS:Rh iK (λ_=>[]):=λx y h _=>z8 x y h
noncomputable def amu:=NB iK (λ_=>[]) λX=>(Vx X.env X.x.args,.sl (cC (X.x.args.map (aZ X.env))))
theorem aJ7{B}{p m}{at_}{ah}{env}(h:B[m]? =some (gh env))(q:Pl)(ho:Vx env q.args):
 amu [.agg [.ptr p 1 0 0,.int .i64 at_,.str ah,.mp m,.int .i64 q.kind,.sl (cW q.names),.int .i64 q.op,.sl (q.args.map eD),.sl (cC q.init),.int .i64 q.node,.bool q.reset,.str q.ev,.int .i64 q.en,.sl (q.on.map eD)]] B=⟨True,.sl (cC (q.args.map (aZ env))),B⟩:=by
 have:=yG (p:=p) (at_:=at_) (ah:=ah) PS (λX=>(Vx X.env X.x.args,J.sl (cC (X.x.args.map (aZ X.env))))) h q;rw[lU (show Vx env q.args from ho)]at this;exact this
theorem ajJ:ez Tryz.prog 123 amu:=by
 refine ez.X1 (ps:=[]) (I:=[(120,qE)]) trivial ⟨PR,BB⟩ aGq (λ_=>rfl) (λ_ _=>rfl) λX B g h=>?_;obtain⟨p,at_,ah,m,env,q⟩:=X;obtain⟨h1,h2⟩:=h;dsimp only at g h1 h2|-;have Y:=λ(t:List ae) (j:Nat) (hj:j<q.args.length)=>z9 (p:=p) (at_:=at_) (ah:=ah) (g t) q (i:=(j:Int)) (by omega) (by omega);have hA:∀(j:Nat) (a:yI),q.args[j]? =some a->br q (j:Int).toNat=a:=λj a hj=>iu hj;obtain⟨kind,names,op,args,init,node,rs,ev,en,on⟩:=q;dsimp only at h1 h2 Y hA|-;refine sM @avl.eq_1 (JJ ?_);refine aj args (λj (x:Ba)=>⟨[(1,.ptr B.length 1 0 0),(3,.own (B.length+1) x.length 0 x.length),(8,.int .i64 args.length),(9,.int .i64 j)],B++[⟨.loc,14,[[.ptr p 1 0 0,.int .i64 at_,.str ah,.mp m,.int .i64 kind,.sl (cW names),.int .i64 op,.sl (args.map eD),.sl (cC init),.int .i64 node,.bool rs,.str ev,.int .i64 en,.sl (on.map eD)]]⟩,⟨.aV,1,cC x⟩]⟩) (λj r x=>x++r.map (aZ env)=args.map (aZ env)/\x.length<=j) [] trivial (CF @ahG) ⟨rfl,By _⟩ (λj a r x d U Z E=>?_) (λj x e E=>?_)
 .obtain⟨r1,r2⟩:=E;rw[p0]at r1;have e2:=λt=>Y t j d;rw[hA j a U]at e2;obtain⟨g0,hlen⟩:=oJ (h2 a (ed U));refine sM (fF @aU d e2 g0 @aaH) (JJ ?_);all_goals exact⟨x++[aZ env a],CT,by simpa using r1,by simp;omega⟩
 .obtain⟨r1,r2⟩:=E;rw[DD,xz]at r1;rw[<-r1];refine sM (cL @aU @PT e) (JJ ?_);all_goals exact⟨_,rfl⟩
def fZ:Fl:=⟨[],[],[],[],[]⟩
noncomputable def amv:=NB iK (λ_=>[]) λX=>((X.x.kind=9\/X.x.kind=10)/\aW fZ X.env X.x,.b9 [IL X.env X.x,.int .i64 (NC X.env X.x).2])
theorem aJ8{B}{p m}{at_}{ah}{env}(h:B[m]? =some (gh env))(q:Pl)(hk:q.kind=9\/q.kind=10)(ho:aW fZ env q):
 amv [.agg [.ptr p 1 0 0,.int .i64 at_,.str ah,.mp m,.int .i64 q.kind,.sl (cW q.names),.int .i64 q.op,.sl (q.args.map eD),.sl (cC q.init),.int .i64 q.node,.bool q.reset,.str q.ev,.int .i64 q.en,.sl (q.on.map eD)]] B=⟨True,.b9 [IL env q,.int .i64 (NC env q).2],B⟩:=by
 have:=yG (p:=p) (at_:=at_) (ah:=ah) PS (λX=>((X.x.kind=9\/X.x.kind=10)/\aW fZ X.env X.x,J.b9 [IL X.env X.x,.int .i64 (NC X.env X.x).2])) h q;rw[lU (show(q.kind=9\/q.kind=10)/\aW fZ env q from⟨hk,ho⟩)]at this;exact this
theorem ajK{V:Ba}{i}(h:i<V.length):((cC V).take (i+1)).drop i=cC [V.getD i 0]:=by
 have e:V.take (i+1)=V.take i++[V.getD i 0]:=by rw[List.take_add_one,tx h];simp[List.getD,h]
 have hl:(V.take i).length=i:=by simp;omega
 simp only[cC,<-List.map_take,<-List.map_drop];rw[e,List.drop_append_of_le_length (by omega),Z8 (by omega),Bz]
theorem ajL:ez Tryz.prog 124 amv:=by
 refine ez.X1 (ps:=[]) (I:=[(120,qE),(28,u_)]) trivial ⟨PR,awE,BB⟩ aGs (λ_=>rfl) (λX n=>by dsimp only;unfold IL;split<;>rfl) λX B g h=>?_;obtain⟨p,at_,ah,m,env,q⟩:=X;obtain⟨hk,h⟩:=h;dsimp only at g hk h|-;have e0:=λ(t:List ae) (j:Int) (h0:0<=j) (hj:j<q.args.length)=>z9 (p:=p) (at_:=at_) (ah:=ah) (g t) q h0 hj;obtain⟨kind,names,op,args,init,node,rs,ev,en,on⟩:=q;dsimp only at hk h e0|-;rcases hk with rfl|rfl
 .simp[aW]at h;obtain⟨ha,hv,bP⟩:=h;match args,ha with
  |[a,b],_=>
  have Y:∀t,qE [.agg [.ptr p 1 0 0,.int .i64 at_,.str ah,.mp m,.int .i64 9,.sl (cW names),.int .i64 op,.sl ([a,b].map eD),.sl (cC init),.int .i64 node,.bool rs,.str ev,.int .i64 en,.sl (on.map eD)],.int .i64 0] (B++t)=⟨True,.sl (cC (aE env a)),B++t⟩:=λt=>e0 t 0 (by simp) (by simp);have e2:∀t,qE [.agg [.ptr p 1 0 0,.int .i64 at_,.str ah,.mp m,.int .i64 9,.sl (cW names),.int .i64 op,.sl ([a,b].map eD),.sl (cC init),.int .i64 node,.bool rs,.str ev,.int .i64 en,.sl (on.map eD)],.int .i64 1] (B++t)=⟨True,.sl (cC (aE env b)),B++t⟩:=λt=>e0 t 1 (by simp) (by simp);obtain⟨s1,i1⟩:=a;obtain⟨s2,i2⟩:=b;simp only[br,OF,Ca]at hv bP;obtain⟨g0,hlen⟩:=oJ bP;simp only[p0,DD]at Y e2;simp only[IL,NC,br,OF,Ca];have hv:(aE env (s1,i1)).length<=1000:=hv;generalize aE env (s1,i1)=V at*;generalize aE env (s2,i2)=W at*;generalize aZ env (s2,i2)=Bo at*;have k9:(9:Int)=9:=rfl;by_cases c:0<=Bo/\Bo<V.length
  .obtain⟨c1,c2⟩:=c;obtain⟨i,rfl⟩:=Cy c1;have c3:i<V.length:=by omega
   have sl:∀H,jq H 1 (.sl (cC V)) (some (.int .i64 i)) (some (.int .i64 ((i:Int)+1))) none=(True,.sl (cC [V.getD i 0])):=λH=>by rw[show((i:Int)+1)=((i+1:Nat):Int) by omega];simp only[jq,fy,aU,GI,GC,ajK c3,Ce,Xv];refine lU ⟨of_eq_true (uR V),trivial,trivial,trivial,by simp,by omega,by omega,by omega,by omega⟩
   refine sM (tM @gK.eq_1 @aU Y e2 c1 c2 g0 sl) (JJ (λhn hn=>?_));all_goals exact⟨_,rfl⟩
  .by_cases c1:Bo<0
   .have c2:¬0<=Bo:=by omega
    refine sM (rO @gK.eq_1 @aU Y e2 c1 c2 g0) (JJ ?_);all_goals exact⟨_,rfl⟩
   .have c2:(V.length:Int)<=Bo:=by omega
    refine sM (tM @gK.eq_1 @aU Y e2 c c1 c2 g0) (JJ ?_);all_goals exact⟨_,rfl⟩
 .simp[aW]at h;obtain⟨ha,hv,bP,OU⟩:=h;match args,ha with
  |[a,b,d],_=>
  have Y:∀t,qE [.agg [.ptr p 1 0 0,.int .i64 at_,.str ah,.mp m,.int .i64 10,.sl (cW names),.int .i64 op,.sl ([a,b,d].map eD),.sl (cC init),.int .i64 node,.bool rs,.str ev,.int .i64 en,.sl (on.map eD)],.int .i64 0] (B++t)=⟨True,.sl (cC (aE env a)),B++t⟩:=λt=>e0 t 0 (by simp) (by simp);have e2:∀t,qE [.agg [.ptr p 1 0 0,.int .i64 at_,.str ah,.mp m,.int .i64 10,.sl (cW names),.int .i64 op,.sl ([a,b,d].map eD),.sl (cC init),.int .i64 node,.bool rs,.str ev,.int .i64 en,.sl (on.map eD)],.int .i64 1] (B++t)=⟨True,.sl (cC (aE env b)),B++t⟩:=λt=>e0 t 1 (by simp) (by simp);have e3:∀t,qE [.agg [.ptr p 1 0 0,.int .i64 at_,.str ah,.mp m,.int .i64 10,.sl (cW names),.int .i64 op,.sl ([a,b,d].map eD),.sl (cC init),.int .i64 node,.bool rs,.str ev,.int .i64 en,.sl (on.map eD)],.int .i64 2] (B++t)=⟨True,.sl (cC (aE env d)),B++t⟩:=λt=>e0 t 2 (by simp) (by simp);obtain⟨s1,i1⟩:=a;obtain⟨s2,i2⟩:=b;obtain⟨s3,i3⟩:=d;simp only[br,OF,Ca]at hv bP OU;obtain⟨g0,hlen⟩:=oJ bP;obtain⟨g1,azF⟩:=oJ OU;simp only[p0,DD]at Y e2 e3;simp only[IL,NC,br,OF,Ca];have hv:(aE env (s1,i1)).length<=1000:=hv;generalize aE env (s1,i1)=V at*;generalize aE env (s2,i2)=W at*;generalize aE env (s3,i3)=aKP at*;generalize aZ env (s2,i2)=Bo at*;generalize aZ env (s3,i3)=X at*;have k9:¬(10:Int)=9:=by decide
  by_cases c:0<=Bo/\Bo<V.length
  .obtain⟨c1,c2⟩:=c;obtain⟨i,rfl⟩:=Cy c1;have c3:i<V.length:=by omega
   have ht:List.take V.length (cC (V.set i X))=cC (V.set i X):=vc (by simp[cC]);refine sM (ey @gK.eq_1 @aU Y e2 e3 c1 c2 c3 (rO g0 g1 @ajM @anA (v_ c3) ht k9)) (JJ (λhn hn=>?_));all_goals exact⟨_,rfl⟩
  .by_cases c1:Bo<0
   .have c2:¬0<=Bo:=by omega
    refine sM (rO @gK.eq_1 @aU Y e2 c1 c2 g0) (JJ ?_);all_goals exact⟨_,rfl⟩
   .have c2:(V.length:Int)<=Bo:=by omega
    refine sM (tM @gK.eq_1 @aU Y e2 c c1 c2 g0) (JJ ?_);all_goals exact⟨_,rfl⟩
def BP(l:cT):Prop:=Vy l/\∀f∈l.fs,f.eqs.length<=1000000
def FF(l:cT)(at_:Int):Prop:=BP l/\0<=at_/\at_<l.fs.length
noncomputable def amw:=Qz iK (λ_=>[]) λX=>(FF X.r.l X.at_/\X.x.kind=6/\aW (ad X.r.l X.at_) X.env X.x,.sl (cC (aE X.env (br X.x ((iG (ad X.r.l X.at_) X.env X.x).toNat+1)))))
theorem aJ9{B}{p m}{r:Mr}{at_}{ah}{env}(h:B[m]? =some (gh env))(h1:B[p]? =some (oM r))(h2:B[r.c]? =some (oC r.l))(q:Pl)(hV:FF r.l at_)(hk:q.kind=6)(ho:aW (ad r.l at_) env q):
 amw [.agg [.ptr p 1 0 0,.int .i64 at_,.str ah,.mp m,.int .i64 q.kind,.sl (cW q.names),.int .i64 q.op,.sl (q.args.map eD),.sl (cC q.init),.int .i64 q.node,.bool q.reset,.str q.ev,.int .i64 q.en,.sl (q.on.map eD)]] B=⟨True,.sl (cC (aE env (br q ((iG (ad r.l at_) env q).toNat+1)))),B⟩:=by
 have:=amt (p:=p) (r:=r) (at_:=at_) (ah:=ah) PS (λX=>(FF X.r.l X.at_/\X.x.kind=6/\aW (ad X.r.l X.at_) X.env X.x,J.sl (cC (aE X.env (br X.x ((iG (ad X.r.l X.at_) X.env X.x).toNat+1)))))) h h1 h2 q;rw[lU (show FF r.l at_/\q.kind=6/\aW (ad r.l at_) env q from⟨hV,hk,ho⟩)]at this;exact this
theorem aeK:ez Tryz.prog 122 amw:=by
 refine ez.awp (ps:=[(94,Tw)]) (I:=[(120,qE)]) ⟨aCu,BB⟩ ⟨PR,BB⟩ aGp (λ_=>rfl) (λ_ _=>rfl) λX B g gp gc h=>?_;obtain⟨p,r,at_,ah,m,env,q⟩:=X;obtain⟨hV,hk,h⟩:=h;dsimp only at g gp gc hV hk h|-;have e0:=λ(t:List ae) (j:Int) (h0:0<=j) (hj:j<q.args.length)=>z9 (p:=p) (at_:=at_) (ah:=ah) (g t) q h0 hj;obtain⟨cg,cl⟩:=yz hV.2.1 hV.2.2;have fm:ad r.l at_∈r.l.fs:=by
  have:r.l.fs[at_.toNat]? =some (ad r.l at_):=by simp[ad,cl]
  exact ed this
 have hw:=hV.1.1 _ fm;have FG:=hV.2;have zQ:=nI r.l;obtain⟨l,c,o,k,st⟩:=r;dsimp only at cg cl hw FG h zQ gp gc|-;simp only[E1]at cg;generalize qy (lg (ad l at_))=BQ at*;generalize aQ l at_=S at*;generalize ad l at_=f at*;obtain⟨kind,names,op,args,init,node,rs,ev,en,on⟩:=q;dsimp only at hk h e0|-;subst hk;simp[aW]at h;obtain⟨bP,ha,AZ,BG⟩:=h;match args with
 |[]=>simp at BG;omega
 |a0::rr=>
 obtain⟨s0,i0⟩:=a0;have e3:=PU f s0;rw[lU hw]at e3;simp only[br,OF,Ca,iG,uB]at bP AZ BG|-;obtain⟨g0,hlen⟩:=oJ bP;have Y:∀t,qE [.agg [.ptr p 1 0 0,.int .i64 at_,.str ah,.mp m,.int .i64 6,.sl (cW names),.int .i64 op,.sl (((s0,i0)::rr).map eD),.sl (cC init),.int .i64 node,.bool rs,.str ev,.int .i64 en,.sl (on.map eD)],.int .i64 0] (B++t)=⟨True,.sl (cC (aE env (s0,i0))),B++t⟩:=λt=>e0 t 0 (by simp) (by simp);generalize (fO f s0).getD K8=w at*;generalize (fO f s0).isSome=wb at*;generalize aZ env (s0,i0)=Bo at*;obtain⟨wn,wk,we,wl,z_⟩:=w;obtain⟨fM,ie,cM,fvars,fG⟩:=f;dsimp only at AZ BG|-;simp only[IS]at ha BG;by_cases c2:wk=2
 .subst c2;have cb:((2:Int)==2)=true:=rfl;rw[cb,gr rfl]at AZ BG|-;generalize hJ:IntKind.i64.wrap (1-Bo)=Bf at*;obtain⟨i,rfl⟩:=Cy AZ;have hi:i<rr.length:=by omega
  have e2:∀t,qE [.agg [.ptr p 1 0 0,.int .i64 at_,.str ah,.mp m,.int .i64 6,.sl (cW names),.int .i64 op,.sl (((s0,i0)::rr).map eD),.sl (cC init),.int .i64 node,.bool rs,.str ev,.int .i64 en,.sl (on.map eD)],.int .i64 ((i:Int)+1)] (B++t)=⟨True,.sl (cC (aE env (rr.getD i ([],0)))),B++t⟩:=λt=>by have:=e0 t ((i:Int)+1) (by omega) (by simp;omega);rw[show((i:Int)+1).toNat=i+1 by omega]at this;exact this
  simp only[p0]at Y e2;refine sM (ey @qF.eq_1 @aU gp gc FG cg cl zQ (fF e3 Y e2 hJ g0)) (JJ ?_);all_goals exact⟨_,rfl⟩
 .have cb:(wk==2)=false:=by simpa using c2
  rw[cb,ba (by decide)]at AZ BG|-;obtain⟨i,rfl⟩:=Cy AZ;have hi:i<rr.length:=by omega
  have e2:∀t,qE [.agg [.ptr p 1 0 0,.int .i64 at_,.str ah,.mp m,.int .i64 6,.sl (cW names),.int .i64 op,.sl (((s0,i0)::rr).map eD),.sl (cC init),.int .i64 node,.bool rs,.str ev,.int .i64 en,.sl (on.map eD)],.int .i64 ((i:Int)+1)] (B++t)=⟨True,.sl (cC (aE env (rr.getD i ([],0)))),B++t⟩:=λt=>by have:=e0 t ((i:Int)+1) (by omega) (by simp;omega);rw[show((i:Int)+1).toNat=i+1 by omega]at this;exact this
  simp only[p0]at Y e2;refine sM (ey @qF.eq_1 @aU gp gc FG cg cl zQ (fj e3 Y e2 g0)) (JJ (λhn=>?_));all_goals first|exact absurd (by assumption) c2|exact⟨_,rfl⟩
noncomputable def amx:=Qz iK (λ_=>[]) λX=>(FF X.r.l X.at_/\X.x.kind≠5/\X.x.kind≠7/\aW (ad X.r.l X.at_) X.env X.x,.b9 [lR (ad X.r.l X.at_) [] X.env X.x,.int .i64 (aN (ad X.r.l X.at_) [] X.env X.x).2])
theorem aaC{B}{p m}{r:Mr}{at_}{ah}{env}(h:B[m]? =some (gh env))(h1:B[p]? =some (oM r))(h2:B[r.c]? =some (oC r.l))(q:Pl)(hV:FF r.l at_)(h5:q.kind≠5)(h7:q.kind≠7)(ho:aW (ad r.l at_) env q):
 amx [.agg [.ptr p 1 0 0,.int .i64 at_,.str ah,.mp m,.int .i64 q.kind,.sl (cW q.names),.int .i64 q.op,.sl (q.args.map eD),.sl (cC q.init),.int .i64 q.node,.bool q.reset,.str q.ev,.int .i64 q.en,.sl (q.on.map eD)]] B=⟨True,.b9 [lR (ad r.l at_) [] env q,.int .i64 (aN (ad r.l at_) [] env q).2],B⟩:=by
 have:=amt (p:=p) (r:=r) (at_:=at_) (ah:=ah) PS (λX=>(FF X.r.l X.at_/\X.x.kind≠5/\X.x.kind≠7/\aW (ad X.r.l X.at_) X.env X.x,J.b9 [lR (ad X.r.l X.at_) [] X.env X.x,.int .i64 (aN (ad X.r.l X.at_) [] X.env X.x).2])) h h1 h2 q;rw[lU (show FF r.l at_/\q.kind≠5/\q.kind≠7/\aW (ad r.l at_) env q from⟨hV,h5,h7,ho⟩)]at this;exact this
theorem ans:ez Tryz.prog 93 amx:=by
 refine ez.awp (ps:=[(119,ch),(121,dO)]) (I:=[(120,qE),(122,amw),(123,amu),(124,amv)]) ⟨aaJ,aIv,BB⟩ ⟨PR,aeK,ajJ,ajL,BB⟩ aFK (λ_=>rfl) (λX n=>by dsimp only;unfold lR;split<;>rfl) λX B g gp gc h=>?_;obtain⟨p,r,at_,ah,m,env,q⟩:=X;obtain⟨hV,h5,h7,h⟩:=h;dsimp only at g gp gc hV h5 h7 h|-;have e0:=λ(t:List ae) (j:Int) (h0:0<=j) (hj:j<q.args.length)=>z9 (p:=p) (at_:=at_) (ah:=ah) (g t) q h0 hj;have eC:=λ(t:List ae) (hk:q.kind=6)=>aJ9 (ah:=ah) (g t) (gp t) (gc t) q hV hk h;have eL:=λ(t:List ae) (ho:Vx env q.args)=>aJ7 (p:=p) (at_:=at_) (ah:=ah) (g t) q ho;have aDc:=λ(t:List ae) (hk:q.kind=9\/q.kind=10)=>aJ8 (p:=p) (at_:=at_) (ah:=ah) (g t) q hk (by rcases hk with hk|hk<;>simpa[aW,hk]using h);generalize ad r.l at_=f at*;obtain⟨kind,names,op,args,init,node,rs,ev,en,on⟩:=q;dsimp only at h5 h7 h e0 eC eL aDc|-;by_cases k2:kind=2
 .subst k2;simp[aW]at h;obtain⟨ha,bP⟩:=h;match args,ha with
  |[a],_=>
  have Y:=λt=>e0 t 0 (by simp) (by simp);simp only[p0,DD,br,OF,show(0:Int).toNat=0 from rfl]at bP Y;obtain⟨g0,hlen⟩:=oJ bP;have mU:aN f [] env ⟨2,names,op,[a],init,node,rs,ev,en,on⟩=([(UB op (aZ env a)).1],(UB op (aZ env a)).2):=rfl;have D6:lR f [] env ⟨2,names,op,[a],init,node,rs,ev,en,on⟩= .sl (cC [(UB op (aZ env a)).1]):=rfl;rw[D6,mU];generalize aE env a=V at*;generalize aZ env a=Bo at*;have e2:=ahH op Bo;simp only[O8]at e2;generalize UB op Bo=An at*;refine sM (jg @ew.eq_1 @aU Y e2 g0 @IP) (JJ ?_);all_goals exact⟨_,rfl⟩
 by_cases k3:kind=3
 .subst k3;simp[aW]at h;obtain⟨ha,bP,OU,u6,hp⟩:=h;match args,ha with
  |[a,b],_=>
  have Y:=λt=>e0 t 0 (by simp) (by simp);have e2:=λt=>e0 t 1 (by simp) (by simp);simp only[p0,DD,br,OF,Ca,show(0:Int).toNat=0 from rfl,show(1:Int).toNat=1 from rfl]at bP OU u6 hp Y e2;obtain⟨g0,hlen⟩:=oJ bP;obtain⟨g1,azF⟩:=oJ OU;have mU:aN f [] env ⟨3,names,op,[a,b],init,node,rs,ev,en,on⟩=([(Bq op (aZ env a) (aZ env b)).1],(Bq op (aZ env a) (aZ env b)).2):=rfl;have D6:lR f [] env ⟨3,names,op,[a,b],init,node,rs,ev,en,on⟩= .sl (cC [(Bq op (aZ env a) (aZ env b)).1]):=rfl;rw[D6,mU];generalize aE env a=V at*;generalize aE env b=W at*;generalize aZ env a=Bo at*;generalize aZ env b=Bf at*;have e3:=aaK op Bo Bf;simp only[TW]at e3;rw[lU (⟨u6,hp⟩:ij Bo/\ij Bf)]at e3;generalize Bq op Bo Bf=An at*;have k32:¬(3:Int)=2:=by decide
  refine sM (tM @ew.eq_1 @aU Y e2 e3 g0 g1 @IP) (JJ ?_);all_goals exact⟨_,rfl⟩
 by_cases k4:kind=4
 .subst k4;simp[aW]at h;obtain⟨ha,bP⟩:=h;match args,ha with
  |[a,b,c],_=>
  have Y:=λt=>e0 t 0 (by simp) (by simp);have e2:=λt=>e0 t 1 (by simp) (by simp);have e3:=λt=>e0 t 2 (by simp) (by simp);simp only[p0,DD,br,OF,Ca,show(0:Int).toNat=0 from rfl,show(1:Int).toNat=1 from rfl,show(2:Int).toNat=2 from rfl]at bP Y e2 e3;obtain⟨g0,hlen⟩:=oJ bP;have mU:aN f [] env ⟨4,names,op,[a,b,c],init,node,rs,ev,en,on⟩=(if aZ env a≠0 then aE env b else aE env c,0):=rfl;have D6:lR f [] env ⟨4,names,op,[a,b,c],init,node,rs,ev,en,on⟩= .sl (cC (if aZ env a≠0 then aE env b else aE env c)):=rfl;rw[D6,mU];generalize aE env a=V at*;generalize aZ env a=Bo at*;have k42:¬(4:Int)=2:=by decide
  have k43:¬(4:Int)=3:=by decide
  by_cases c0:Bo=0
  .subst c0;have aJN:(0:Int)=0:=rfl;refine sM (fF @ew.eq_1 @aU Y e3 g0) (JJ ?_);all_goals exact⟨_,rfl⟩
  .refine sM (jg @ew.eq_1 @aU Y e2 g0 c0) (JJ (λhn=>?_));all_goals first|exact absurd (by assumption) c0|exact⟨_,rfl⟩
 by_cases k6:kind=6
 .subst k6;have Y:=λt=>eC t rfl;have mU:aN f [] env ⟨6,names,op,args,init,node,rs,ev,en,on⟩=(aE env (br ⟨6,names,op,args,init,node,rs,ev,en,on⟩ ((iG f env ⟨6,names,op,args,init,node,rs,ev,en,on⟩).toNat+1)),0):=rfl;have D6:lR f [] env ⟨6,names,op,args,init,node,rs,ev,en,on⟩= .sl (cC (aE env (br ⟨6,names,op,args,init,node,rs,ev,en,on⟩ ((iG f env ⟨6,names,op,args,init,node,rs,ev,en,on⟩).toNat+1)))):=rfl;rw[D6,mU];generalize aE env (br ⟨6,names,op,args,init,node,rs,ev,en,on⟩ ((iG f env ⟨6,names,op,args,init,node,rs,ev,en,on⟩).toNat+1))=V at*;refine sM (bV @ew.eq_1 Y) (JJ ?_);all_goals exact⟨_,rfl⟩
 by_cases k8:kind=8
 .subst k8;simp[aW]at h;have vT:Vx env args:=⟨h.1,λa ha=>h.2 a.1 a.2 ha⟩;have Y:=λt=>eL t vT;have mU:aN f [] env ⟨8,names,op,args,init,node,rs,ev,en,on⟩=(args.map (aZ env),0):=rfl;have D6:lR f [] env ⟨8,names,op,args,init,node,rs,ev,en,on⟩= .sl (cC (args.map (aZ env))):=rfl;rw[D6,mU];generalize args.map (aZ env)=V at*;refine sM (bV @ew.eq_1 Y) (JJ ?_);all_goals exact⟨_,rfl⟩
 by_cases k9:kind=9\/kind=10
 .have Y:=λt=>aDc t k9;have mU:aN f [] env ⟨kind,names,op,args,init,node,rs,ev,en,on⟩=NC env ⟨kind,names,op,args,init,node,rs,ev,en,on⟩:=by rcases k9 with rfl|rfl<;>rfl
  have D6:lR f [] env ⟨kind,names,op,args,init,node,rs,ev,en,on⟩=IL env ⟨kind,names,op,args,init,node,rs,ev,en,on⟩:=by
   rw[IL,lR,mU];dsimp only;by_cases c:0<=aZ env (br ⟨kind,names,op,args,init,node,rs,ev,en,on⟩ 1)/\aZ env (br ⟨kind,names,op,args,init,node,rs,ev,en,on⟩ 1)<(aE env (br ⟨kind,names,op,args,init,node,rs,ev,en,on⟩ 0)).length
   .rw[gr c,ba (λhh=>hh.2 c)]
   .rw[ba c,gr ⟨k9,c⟩]
  rw[D6,mU];generalize IL env ⟨kind,names,op,args,init,node,rs,ev,en,on⟩=V at*;generalize NC env ⟨kind,names,op,args,init,node,rs,ev,en,on⟩=W at*;rcases k9 with rfl|rfl
  .refine sM (bV @ew.eq_1 Y) (JJ ?_);all_goals exact⟨_,rfl⟩
  .refine sM (bV @ew.eq_1 Y) (JJ ?_);all_goals exact⟨_,rfl⟩
 .have wI:kind≠9:=λe=>k9 (.inl e);have FK:kind≠10:=λe=>k9 (.inr e);simp only[aW,k2,k3,k4,h5,k6,k8,wI,FK,Bv]at h;match args,h with
  |a::r',_=>
  have Y:=λt=>e0 t 0 (by simp) (by simp);simp only[p0,br,OF,show(0:Int).toNat=0 from rfl]at Y;have mU:aN f [] env ⟨kind,names,op,a::r',init,node,rs,ev,en,on⟩=(aE env a,0):=by simp[aN,k2,k3,k4,h5,k6,k8,wI,FK,br]
  have D6:lR f [] env ⟨kind,names,op,a::r',init,node,rs,ev,en,on⟩= .sl (cC (aE env a)):=by rw[lR,ba (by simp[wI,FK]),mU]
  rw[D6,mU];refine sM (bV @ew.eq_1 Y) (JJ (λhn hn hn hn hn hn hn=>?_));all_goals first|exact⟨_,rfl⟩|exact absurd (by assumption) k2|exact absurd (by assumption) k3|exact absurd (by assumption) k4|exact absurd (by assumption) k6|exact absurd (by assumption) k8|exact absurd (by assumption) wI|exact absurd (by assumption) FK
end Go.Proofs.YtldnkkkooabaeaaGreat

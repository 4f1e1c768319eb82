/- Machines behind instants and loads; the page's example (26). -/
import Derived.Test.YtldnkkkooabaeaaGreatXcM
set_option maxHeartbeats 8000000
set_option linter.all false
set_option maxRecDepth 20000
namespace Go.Proofs.YtldnkkkooabaeaaGreat
open Go.Nk
structure MI(l:cT)(B:List ae)(x:Mx):Prop where
 a:yq B x
 e:x.r.l=l
 f:Fit l (ax l) (b7 l x.K)
def Ut(S:Bd×List cG×Int):J:=if S.2.2=0 then .b9 [.sl (S.1.map cy),.int .i64 0]else .b9 [.nil,.int .i64 S.2.2]
variable {l:cT} {B:List ae} {x:Mx}
theorem MI.new(An:EY l)(t):MI l (B++(BN l B.length++t)) ⟨B.length+1,⟨l,B.length+3,B.length+2,B.length,0⟩,Xw l⟩:=
 ⟨ar5 t,rfl,by show Fit l (ax l) (b7 l (Xw l));rw[Ij An];exact Fit.start An.L An.V⟩
theorem MI.kept(An:EY l)(h:MI l B x):zU [.ptr x.p 1 0 0] B=⟨True,.sl ((b7 l x.K).map bf),B⟩:=by obtain⟨a,rfl,f⟩:=h;exact aej a (ar6 An f)
theorem MI.steps(An:EY l)(h:MI l B x):mM [.ptr x.p 1 0 0] B=⟨True,.int .i64 x.r.steps,B⟩:=by obtain⟨a,rfl,f⟩:=h;exact aKh a An.pos
theorem MI.mem(An:EY l)(h:MI l B x):kE (b7 l x.K):=Fit.mem An.L An.V h.f
theorem amO(An:EY l){m}(hm:Fit l (ax l) m){ins}(hi:sZ ins):Fit l (ax l) (bp l (ax l) m ins).2.1:=by
 have hS:=wF An.L An.G An.V (Fit.mem An.L An.V hm) (wG hm) (ins:=ins) trivial hi;by_cases c:(bp l (ax l) m ins).2.2=0
 .exact(hS.xP c).2
 .rw[(hS.bad c).2];exact hm
theorem MI.go(An:EY l)(h:MI l B x){ins:Bd}(hi:sZ ins)(I:0<=x.r.steps/\x.r.steps<=1000):∃cU x',mr [.ptr x.p 1 0 0,.sl (ins.map cy)] B=⟨True,Ut (bp l (ax l) (b7 l x.K) ins),cU⟩/\
 MI l cU x'/\x'.p=x.p/\x'.r.steps=(if(bp l (ax l) (b7 l x.K) ins).2.2=0 then x.r.steps+1 else x.r.steps)/\b7 l x'.K=(bp l (ax l) (b7 l x.K) ins).2.1/\
 (∀(i:Nat) (o:ae),B[i]? =some o->i≠x.p->i≠x.r.k->cU[i]? =some o)/\(x'.r.k=x.r.k\/B.length<=x'.r.k):=by
 obtain⟨g,hl,f⟩:=h;obtain⟨m1,m2,m3,m4⟩:=aji An hl f hi I;obtain⟨r',o1,o2,o3,akk,aKk⟩:=ar7 (ins:=ins) g;refine⟨_,_,by rw[aek g ins m1,m2];rfl,⟨o3,o1.trans hl,?_⟩,rfl,?_,m4,akk,aKk⟩
 .show Fit l (ax l) (b7 l (if zV x.r.l ins=true/\(ff x.r.l x.K ins).2=0 then(ff x.r.l x.K ins).1.1 else x.K));rw[m4];exact amO An f hi
 .show r'.steps=_;rw[o2];by_cases c:(bp l (ax l) (b7 l x.K) ins).2.2=0
  .rw[gr (m3.2 c),gr c]
  .rw[ba (λh=>c (m3.1 h)),ba c]
theorem awf:(bp l0 (ax l0) (aQ l0 (ax l0)) []).1=[[0]]/\(bp l0 (ax l0) (aQ l0 (ax l0)) []).2.2=0:=by decide+kernel
theorem awg:(bp l0 (ax l0) (bp l0 (ax l0) (aQ l0 (ax l0)) []).2.1 []).1=[[1]]/\(bp l0 (ax l0) (bp l0 (ax l0) (aQ l0 (ax l0)) []).2.1 []).2.2=0:=by decide+kernel
theorem X9:EY l0:=⟨amP,aac amP azl,aDz⟩
theorem amQ(h4:B.length=4):∃H1 H2 H3,xQ [.agg (cD l0)] B=⟨True,.b9 [.ptr 5 1 0 0,.bool true],H1⟩/\mr [.ptr 5 1 0 0,.sl []] H1=⟨True,.b9 [.sl ([[0]].map cy),.int .i64 0],H2⟩/\
 mr [.ptr 5 1 0 0,.sl []] H2=⟨True,.b9 [.sl ([[1]].map cy),.int .i64 0],H3⟩/\mM [.ptr 5 1 0 0] H3=⟨True,.int .i64 2,H3⟩:=by
 have Y:=Dd (B:=B) l0 X9.new;have aDk:=MI.new (B:=B) X9 [];rw[xz]at aDk;have hi:sZ ([]:Bd):=by intro y hy;simp at hy
 obtain⟨H2,x2,s2,m2,p2,n2,k2,_⟩:=aDk.go X9 hi ⟨Ch _,by show(0:Int)<=1000;decide⟩;have aKl:=Ij X9;dsimp only at s2 p2 n2 k2;rw[aKl]at s2 n2 k2;rw[gr awf.2]at n2;obtain⟨H3,x3,s3,m3,p3,n3,k3,_⟩:=m2.go X9 hi (by rw[n2];decide);rw[k2]at s3 n3;rw[gr awg.2,n2]at n3;have e4:=m3.steps X9;rw[p3,p2,n3]at e4;rw[p2]at s3;rw[Ut,gr awf.2,awf.1]at s2;rw[Ut,gr awg.2,awg.1]at s3;rw[h4]at Y s2 s3 e4;exact⟨_,H2,H3,Y,s2,s3,e4⟩
noncomputable def Ik:Ab->Prop×J:=Vj (True,.bool true)
theorem aDl:aJ Tryz.prog 6 Ik:=by
 refine aJ.mk0 (ps:=[(11,Il),(12,sb)]) (I:=[(7,xQ),(10,mr),(14,mM)]) ⟨amK,akY,BB⟩ ⟨amJ,amI,amE,BB⟩ aD1 (λ_=>?_);have e5:=akX [[1]] [[1]];rw[lU (show [[(1:Int)]].length<=1000000/\∀y∈[[(1:Int)]],y.length<=1000000 from⟨by decide,by simp⟩),ON rfl]at e5;simp only[cy,cC,p0,DD]at e5;have key:∀o:ae×ae×ae×ae,∃H:List ae×List ae×List ae,xQ [.agg (cD l0)] [o.1,o.2.1,o.2.2.1,o.2.2.2]=⟨True,.b9 [.ptr 5 1 0 0,.bool true],H.1⟩/\mr [.ptr 5 1 0 0,.sl []] H.1=⟨True,.b9 [.sl ([[0]].map cy),.int .i64 0],H.2.1⟩/\
  mr [.ptr 5 1 0 0,.sl []] H.2.1=⟨True,.b9 [.sl ([[1]].map cy),.int .i64 0],H.2.2⟩/\mM [.ptr 5 1 0 0] H.2.2=⟨True,.int .i64 2,H.2.2⟩:=λo=>by
  obtain⟨H1,H2,H3,h⟩:=amQ (B:=[o.1,o.2.1,o.2.2.1,o.2.2.2]) rfl;exact⟨(H1,H2,H3),h⟩
 simp only[cD,l0,f0,j9,Wl,Lw,OQ,lf,eu,iK,eD,cW,cC,cy,p0,DD]at key;obtain⟨H,key⟩:=Classical.axiomOfChoice key;have Y:=λo0 o1 o2 o3=>(key (o0,o1,o2,o3)).1;have e2:=λo0 o1 o2 o3=>(key (o0,o1,o2,o3)).2.1;have e3:=λo0 o1 o2 o3=>(key (o0,o1,o2,o3)).2.2.1;have e4:=λo0 o1 o2 o3=>(key (o0,o1,o2,o3)).2.2.2;exact ao (rO @as9.eq_1 @akZ Y e2 e3 e4 e5) zz
structure JI(l:cT)(B:List ae)(x:Mx)(w:Wx):Prop where
 m:MI l B x
 v:Hj B w
 e:w.l=l/\w.m=b7 l x.K/\w.n=x.r.steps
variable {l:cT} {B:List ae} {x:Mx} {w:Wx}
theorem amR(h:yq B x)(g:Hj B w):w.q≠x.p/\w.q≠x.r.k/\w.q≠x.r.c/\w.q≠x.r.o:=by
 have g:B[w.q]? =some (oW w):=g;refine⟨λe=>?_,λe=>?_,λe=>?_,λe=>?_⟩<;>rw[e]at g
 .simpa[oW,oM]using g.symm.trans h.p
 .simpa[oW,gh]using g.symm.trans h.k
 .simpa[oW,oC]using g.symm.trans h.c
 .simpa[oW]using g.symm.trans h.o
theorem ahy(g:Hj B w)(o:Wx)(hq:o.q=w.q):Hj (one B w.q (oW o)) o:=by show(one B w.q (oW o))[o.q]? =_;rw[hq];unfold one;have:=(pc.1 (show B[w.q]? =some _ from g)).1;simp[this]
theorem MI.azn(h:MI l B x)(g:Hj B w)(o):MI l (one B w.q o) x:=by
 obtain⟨s1,s2,s3,s4⟩:=amR h.a g;have I:∀{i:Nat} {y:ae},w.q≠i->B[i]? =some y->(one B w.q o)[i]? =some y:=λhi hy=>by unfold one;rw[MG hi];exact hy
 exact⟨⟨I s1 h.a.p,I s3 h.a.c,I s4 h.a.o,I s2 h.a.k⟩,h.e,h.f⟩
theorem JI.new(An:EY l)(B):∃H1 p H2 q x w,xQ [.agg (cD l)] B=⟨True,.b9 [.ptr p 1 0 0,.bool true],H1⟩/\(∀(i:Nat) (o:ae),B[i]? =some o->H1[i]? =some o)/\
 Xy [.agg (cD l)] H1=⟨True,.b9 [.ptr q 1 0 0,.bool true],H2⟩/\JI l H2 x w/\x.p=p/\w.q=q/\x.r.steps=0:=by
 have hm:=MI.new (B:=B) An [oW ⟨(B++BN l B.length).length,l,aQ l (ax l),0⟩];rw[<-AT]at hm;refine⟨_,_,_,_,_,⟨(B++BN l B.length).length,l,aQ l (ax l),0⟩,Dd l An.new,λi o h=>?_,ajl l ⟨An.G,An.V⟩,⟨hm,?_,rfl,(Ij An).symm,rfl⟩,rfl,rfl,rfl⟩
 .rw[OR (pc.1 h).1];exact h
 .show(_++[_])[(B++BN l B.length).length]? =_;rw[IF (By _)];simp
theorem JI.load(An:EY l)(h:JI l B x w){c:List cG}(hM:kE c)(u6:Nr c):∃H1 H2 x' w',PD [.ptr x.p 1 0 0,.sl (c.map bf)] B=⟨True,.bool (fI l (ax l) c),H1⟩/\
 PE [.ptr w.q 1 0 0,.sl (c.map bf)] H1=⟨True,.bool (fI l (ax l) c),H2⟩/\JI l H2 x' w'/\x'.p=x.p/\w'.q=w.q/\x'.r.steps=x.r.steps:=by
 obtain⟨⟨amL,ml,aKm⟩,wa,Y,e2,e3⟩:=h;obtain⟨s1,s2,s3,s4⟩:=amR amL wa;have k:=ajm An u6 x.K;have Uv:Hj (one B x.r.k (gh (AY l c x.K))) w:=by show(one B x.r.k _)[w.q]? =_;unfold one;rw[MG (Ne.symm s2)];exact wa
 have m2:MI l (one B x.r.k (gh (AY l c x.K))) ⟨x.p,x.r,AY l c x.K⟩:=by
  have:=amL.one (AY l c x.K) [];rw[xz]at this;refine⟨this,ml,?_⟩;show Fit l (ax l) (b7 l (AY l c x.K));rw[k];split
  next hb=>exact ak1 hb u6
  .exact aKm
 have e:=ael amL c ⟨by rw[ml];exact An.G,hM,by rw[ml];exact An.pos⟩;rw[ml]at e;have e':=aem Uv c ⟨by rw[Y];exact An.G,hM⟩;rw[Y]at e';refine⟨_,_,_,Vl w c,e,e',⟨m2.azn Uv _,ahy Uv _ ?_,?_,?_,?_⟩,rfl,?_,rfl⟩<;>unfold Vl<;>rw[Y]
 .split<;>rfl
 .split
  .rfl
  .exact Y
 .show(if _ then _ else _:Wx).m=b7 l (AY l c x.K);rw[k];split
  .rfl
  .exact e2
 .show(if _ then _ else _:Wx).n=x.r.steps;split<;>exact e3
 .split<;>rfl
theorem JI.go(An:EY l)(h:JI l B x w){ins:Bd}(hi:sZ ins)(I:0<=x.r.steps/\x.r.steps<=1000):∃H1 H2 x' w',mr [.ptr x.p 1 0 0,.sl (ins.map cy)] B=⟨True,Ut (bp l (ax l) (b7 l x.K) ins),H1⟩/\
 Io [.ptr w.q 1 0 0,.sl (ins.map cy)] H1=⟨True,.b9 [.sl ((bp l (ax l) (b7 l x.K) ins).1.map cy),.int .i64 (bp l (ax l) (b7 l x.K) ins).2.2],H2⟩/\
 JI l H2 x' w'/\x'.p=x.p/\w'.q=w.q/\0<=x'.r.steps/\x'.r.steps<=x.r.steps+1:=by
 obtain⟨hm,wa,Y,e2,e3⟩:=h;obtain⟨s1,s2,s3,s4⟩:=amR hm.a wa;obtain⟨H1,x',g1,g2,g3,g4,g5,g6,_⟩:=hm.go An hi I;have Uv:=g6 _ _ wa s1 s2;have nT:=(wF An.L An.G An.V (hm.mem An) (wG hm.f) (ins:=ins) trivial hi).ok;have e':=aen Uv ins ⟨by rw[Y,e2];exact nT,by rw[e3];exact I⟩;rw[Y,e2]at e';refine⟨H1,_,x',EZ w ins,g1,e',⟨g2.azn Uv _,ahy Uv _ ?_,?_,?_,?_⟩,g3,?_,?_,?_⟩
 .unfold EZ;split<;>rfl
 .unfold EZ;split
  .exact Y
  .exact Y
 .unfold EZ;rw[Y,e2,g5];split
  .rfl
  next hc=>rw[e2];exact((wF An.L An.G An.V (hm.mem An) (wG hm.f) (ins:=ins) trivial hi).bad hc).2.symm
 .unfold EZ;rw[Y,e2,g4];split
  .show w.n+1=_;rw[e3]
  .exact e3
 .unfold EZ;split<;>rfl
 .rw[g4];split<;>omega
 .rw[g4];split<;>omega
theorem ar9(An:EY l){m}(hm:Fit l (ax l) m){ins}(hi:sZ ins):
 Ut (bp l (ax l) m ins)= .b9 [.sl ((bp l (ax l) m ins).1.map cy),.int .i64 (bp l (ax l) m ins).2.2]\/
 ((bp l (ax l) m ins).1=[]/\Ut (bp l (ax l) m ins)= .b9 [.nil,.int .i64 (bp l (ax l) m ins).2.2]):=by
 unfold Ut;by_cases c:(bp l (ax l) m ins).2.2=0
 .rw[gr c,c];exact .inl rfl
 .rw[ba c];exact .inr ⟨((wF An.L An.G An.V (Fit.mem An.L An.V hm) (wG hm) (ins:=ins) trivial hi).bad c).1,rfl⟩
theorem ahz{p}(u6:Nt p)(h:FC p=true):EY (zW p)/\Ip p=ax (zW p):=by
 obtain⟨h1,h2,h3⟩:=awi u6 h;have e:Ip p=ax (zW p):=by simp only[FC,ab]at h;rw[zW,Ip,gr h.1,gr h.1];rfl
 exact⟨⟨h1,h2,by rw[<-e];exact h3⟩,e⟩
@[reducible] def V0(c:List cG):Ab:=[.sl (c.map bf)]
def asa:=show∀x y,V0 x=V0 y->x=_ fromλx y h=>map_inj s8 _ _ (by simpa using h)
abbrev XB:List (List cG)->J:=eL V0
theorem asb:ux XB:=yu asa
noncomputable def aDm:Ab->Prop×J:=fp bA J5 XB λp rows MD=>(Te p/\Nt p/\(∀r∈rows,sZ r)/\∀c∈MD,Nr c,.bool true)
def aKn(p)(rows:List Bd)(MD:List (List cG)):=show aDm [.agg (cE p),.sl (rows.map nU),.sl (MD.map V0)]=_ from bW dY aep asb _ p rows MD
theorem aDn:Ik []=(True,.bool true):=Iq _
theorem aKo:aJ Tryz.prog 4 aDm:=by
 refine aJ.zP (ps:=[(5,zX),(6,Ik),(13,Ir),(16,aer),(17,_D),(12,sb),(11,Il)])
  (I:=[(7,xQ),(15,Xy),(8,zU),(18,PD),(19,PE),(10,mr),(20,Io),(14,mM)])
  ⟨aCW,aDl,ay6,aJW,aIB,akY,amK,BB⟩ ⟨amJ,asc,aad,amS,amT,amI,amU,amE,BB⟩ aDZ λp rows MD h=>?_
 obtain⟨hc,u6,E,Z⟩:=h;have e0:=aCV p;rw[lU (And.intro hc u6)]at e0;have eL:=aDn;have eN:=akZ;by_cases c:FC p=true;rotate_left
 .have c1:FC p=false:=by simpa using c
  rw[c1]at e0;generalize zW p=l at*;generalize Ip p=a at*;obtain⟨en,ns⟩:=p;obtain⟨len,lfs⟩:=l;simp only[cE,cD]at e0;exact ao (fF @fJ.eq_1 @XB.eq_1 @bA.eq_1 @J5.eq_1 e0) zz
 obtain⟨An,hA⟩:=ahz u6 c;rw[c,hA]at e0;clear hA;generalize zW p=l at*;obtain⟨en,ns⟩:=p;have eJ:=JI.new An;have go:=λB x w (h:JI l B x w) ins hi I=>h.go An (ins:=ins) hi I;have ld:=λB x w (h:JI l B x w) c hM u6=>h.load An (c:=c) hM u6;have kp:=λB x w (h:JI l B x w)=>h.m.kept An;have sp:=λB x w (h:JI l B x w)=>h.m.steps An;have V1:=λB x w (h:JI l B x w)=>h.m.mem An;have hV:=λB x w (h:JI l B x w) ins hi=>ar9 An (ins:=ins) h.m.f hi;have hSm:=λB x w (h:JI l B x w) ins hi=>(amV An.L An.V (h.m.mem An) (wF An.L An.G An.V (h.m.mem An) (wG h.m.f) (ins:=ins) trivial hi)).1;have aDo:∀B x w,JI l B x w->B[w.q]? =some ⟨.loc,4,[[.sl (l.enums.map kF),.sl (l.fs.map lf),.sl ((b7 l x.K).map bf),.int .i64 x.r.steps]]⟩:=λB x w h=>by have v:B[w.q]? =some ⟨.loc,4,[[.sl (w.l.enums.map kF),.sl (w.l.fs.map lf),.sl (w.m.map bf),.int .i64 w.n]]⟩:=h.v;rw[h.e.1,h.e.2.1,h.e.2.2]at v;exact v
 have tail:∀(pm qm j:Nat) (y:Bd) H X W,JI l H X W->X.p=pm->W.q=qm->0<=X.r.steps->X.r.steps<=j->j<=20->sZ y->
  ∃(A:Bd) (CE:Int) (V:J) (m:List cG) (n:Int) (H1 H2:List ae) (X':Mx) (W':Wx),mr [.ptr pm 1 0 0,.sl (y.map cy)] H=⟨True,.b9 [V,.int .i64 CE],H1⟩/\
   Io [.ptr qm 1 0 0,.sl (y.map cy)] H1=⟨True,.b9 [.sl (A.map cy),.int .i64 CE],H2⟩/\(V= .sl (A.map cy)\/V= .nil/\A=[])/\sb [.sl (A.map cy),.sl (A.map cy)]=(True,.bool true)/\
   zU [.ptr pm 1 0 0] H2=⟨True,.sl (m.map bf),H2⟩/\H2[qm]? =some ⟨.loc,4,[[.sl (l.enums.map kF),.sl (l.fs.map lf),.sl (m.map bf),.int .i64 n]]⟩/\Ir [.sl (m.map bf),.sl (m.map bf)]=(True,.bool true)/\
   mM [.ptr pm 1 0 0] H2=⟨True,.int .i64 n,H2⟩/\JI l H2 X' W'/\X'.p=pm/\W'.q=qm/\0<=X'.r.steps/\X'.r.steps<=j+1:=by
  rintro pm qm j y H X W h rfl rfl h0 h1 h2 hy
  obtain⟨H1,H2,X',W',g1,g2,g3,g4,g5,g6,g7⟩:=go H X W h y hy ⟨h0,by omega⟩;have e4:=akX (bp l (ax l) (b7 l X.K) y).1 (bp l (ax l) (b7 l X.K) y).1;rw[lU (hSm H X W h y hy),ON rfl]at e4;have e6:=zZ (b7 l X'.K) (b7 l X'.K);rw[lU (jn (V1 _ _ _ g3)).1,ON rfl]at e6;have k1:=kp _ _ _ g3;have k2:=sp _ _ _ g3;have k3:=aDo _ _ _ g3;rw[g4]at k1 k2;rw[g5]at k3;rcases hV H X W h y hy with hv|⟨hv,Z'⟩
  .rw[hv]at g1;exact⟨_,_,_,_,_,H1,H2,X',W',g1,g2,.inl rfl,e4,k1,k3,e6,k2,g3,g4,g5,g6,by omega⟩
  .rw[Z']at g1;exact⟨_,_,_,_,_,H1,H2,X',W',g1,g2,.inr ⟨rfl,hv⟩,e4,k1,k3,e6,k2,g3,g4,g5,g6,by omega⟩
 simp only[cE,cD]at e0 eJ;obtain⟨H1,pm,H2,qm,x0,w0,j1,j2,j3,hj,j5,j6,j7⟩:=eJ [⟨.loc,2,[[.sl (l.enums.map kF),.sl (l.fs.map lf)]]⟩];have j2:=j2 0 _ rfl;by_cases XC:(20:Int)<rows.length
 .exact ao (jg @fJ.eq_1 @XB.eq_1 @bA.eq_1 @J5.eq_1 e0 XC) zz
 by_cases d20:(20:Int)<MD.length
 .exact ao (rO @fJ.eq_1 @XB.eq_1 @bA.eq_1 @J5.eq_1 e0 XC d20) zz
 have k1:=kp _ _ _ hj;have g1:=aDo _ _ _ hj;rw[j5]at k1;rw[j6]at g1;have e6:=zZ (b7 l x0.K) (b7 l x0.K);rw[lU (jn (V1 _ _ _ hj)).1,ON rfl]at e6;refine ao (ey @fJ.eq_1 @XB.eq_1 @bA.eq_1 @J5.eq_1 e0 XC d20 j1 (fF j2 j3 k1 g1 e6)) (JJ ?_);refine aj rows (λj (x:List ae×Mx×Wx)=>⟨[(1,.sl (rows.map nU)),(2,.sl (MD.map V0)),(10,.ptr pm 1 0 0),(12,.ptr qm 1 0 0),(14,.int .i64 j)],x.1⟩)
  (λj r x=>JI l x.1 x.2.1 x.2.2/\x.2.1.p=pm/\x.2.2.q=qm/\0<=x.2.1.r.steps/\x.2.1.r.steps<=j) (H2,x0,w0) trivial CT ⟨hj,j5,j6,by dsimp only;omega,by dsimp only;omega⟩ (λj y t x d U He hq=>?_) (λj x e hq=>?_)
 rotate_left
 .exact ao @e zz
 obtain⟨H,X,W⟩:=x;obtain⟨q1,q2,q3,q4,q5⟩:=hq;dsimp only at q1 q2 q3 q4 q5;have aH9:j<rows.length:=(pc.1 U).1;have gx:=ag nU U;have e2:=ajp y;have hy:=E y (ed U);clear j1 j2 j3 j5 j6 j7 hj k1 g1 e6 e0;by_cases cr:PF y=true;rotate_left
 .rw[show PF y=false by simpa using cr]at e2;exact ao (cL d gx e2) zz
 rw[cr]at e2;by_cases cj:j<MD.length;rotate_left
 .obtain⟨A,CE,V,m,n,H3,H4,X',W',t1,t2,hv,t4,t5,t6,t7,t8,t9⟩:=tail pm qm j y H X W q1 q2 q3 q4 q5 (by omega) hy;rcases hv with rfl|⟨rfl,rfl⟩
  .refine ao (ey d gx e2 cj t1 t2 t4 t5 (fj t6 t7 t8 eN)) (JJ ?_);all_goals exact⟨(H4,X',W'),CT,t9⟩
  .simp only[DD]at t2 t4;refine ao (ey d gx e2 cj t1 t2 t4 t5 (fj t6 t7 t8 eN)) (JJ ?_);all_goals exact⟨(H4,X',W'),CT,t9⟩
 obtain⟨cl,zQ⟩:∃cl,MD[j]? =some cl:=⟨MD[j],tx cj⟩;have gl:=ag V0 zQ;have e3:=ajq cl;by_cases amM:Nv cl=true;rotate_left
 .rw[show Nv cl=false by simpa using amM]at e3;exact ao (jg d gx e2 cj gl e3) zz
 rw[amM]at e3;obtain⟨L1,aBG,aKq,W1,l1,l2,l3,l4,l5,l6⟩:=ld H X W q1 cl (asd amM) (Z cl (ed zQ));rw[q2]at l1 l4;rw[q3]at l2 l5;obtain⟨A,CE,V,m,n,H3,H4,X',W',t1,t2,hv,t4,t5,t6,t7,t8,t9⟩:=tail pm qm j y aBG aKq W1 l3 l4 l5 (by omega) (by omega) (by omega) hy;generalize fI l (ax l) cl=b at*;rcases hv with rfl|⟨rfl,rfl⟩
 .refine ao (ey d gx e2 cj gl e3 l1 l2 (tM t1 t2 t4 t5 t6 t7 t8 eN)) (JJ ?_);all_goals exact⟨(H4,X',W'),CT,t9⟩
 .simp only[DD]at t2 t4;refine ao (ey d gx e2 cj gl e3 l1 l2 (tM t1 t2 t4 t5 t6 t7 t8 eN)) (JJ ?_);all_goals exact⟨(H4,X',W'),CT,t9⟩
structure PI(l:cT)(B:List ae)(x o:Mx):Prop where
 m:MI l B x
 z:MI l B o
 p:o.p≠x.p
 k:o.r.k≠x.r.k
variable {l:cT} {B:List ae} {x o:Mx}
theorem azo(h:yq B x)(g:yq B o)(lO:o.p≠x.p)(hk:o.r.k≠x.r.k):(o.p≠x.p/\o.p≠x.r.k)/\(o.r.c≠x.p/\o.r.c≠x.r.k)/\(o.r.o≠x.p/\o.r.o≠x.r.k)/\o.r.k≠x.p/\o.r.k≠x.r.k:=by
 refine⟨⟨lO,λe=>?_⟩,⟨λe=>?_,λe=>?_⟩,⟨λe=>?_,λe=>?_⟩,λe=>?_,hk⟩
 .have:=g.p;rw[e]at this;simpa[oM,gh]using this.symm.trans h.k
 .have:=g.c;rw[e]at this;simpa[oM,oC]using this.symm.trans h.p
 .have:=g.c;rw[e]at this;simpa[gh,oC]using this.symm.trans h.k
 .have:=g.o;rw[e]at this;simpa[oM]using this.symm.trans h.p
 .have:=g.o;rw[e]at this;simpa[gh]using this.symm.trans h.k
 .have:=g.k;rw[e]at this;simpa[oM,gh]using this.symm.trans h.p
theorem PI.go(An:EY l)(h:PI l B x o){ins:Bd}(hi:sZ ins)(I:0<=x.r.steps/\x.r.steps<=1000):∃H x',mr [.ptr x.p 1 0 0,.sl (ins.map cy)] B=⟨True,Ut (bp l (ax l) (b7 l x.K) ins),H⟩/\
 PI l H x' o/\x'.p=x.p/\x'.r.steps=(if(bp l (ax l) (b7 l x.K) ins).2.2=0 then x.r.steps+1 else x.r.steps)/\b7 l x'.K=(bp l (ax l) (b7 l x.K) ins).2.1:=by
 obtain⟨hm,ho,h1,h2⟩:=h;obtain⟨⟨a1,a2⟩,⟨b1,b2⟩,⟨c1,c2⟩,d1,d2⟩:=azo hm.a ho.a h1 h2;obtain⟨H,x',g1,g2,g3,g4,g5,g6,g7⟩:=hm.go An hi I;refine⟨H,x',g1,⟨g2,⟨⟨g6 _ _ ho.a.p a1 a2,g6 _ _ ho.a.c b1 b2,g6 _ _ ho.a.o c1 c2,g6 _ _ ho.a.k d1 d2⟩,ho.e,ho.f⟩,by rw[g3];exact h1,?_⟩,g3,g4,g5⟩;have:=ho.a.lt.2.2.1;rcases g7 with e|e
 .rw[e];exact h2
 .omega
theorem PI.new(An:EY l)(B):∃H1 p H2 q x o,xQ [.agg (cD l)] B=⟨True,.b9 [.ptr p 1 0 0,.bool true],H1⟩/\(∀(i:Nat) (y:ae),B[i]? =some y->H1[i]? =some y)/\
 xQ [.agg (cD l)] H1=⟨True,.b9 [.ptr q 1 0 0,.bool true],H2⟩/\(∀(i:Nat) (y:ae),B[i]? =some y->H2[i]? =some y)/\PI l H2 x o/\x.p=p/\o.p=q/\x.r.steps=0/\o.r.steps=0/\b7 l x.K=aQ l (ax l):=by
 have hm:=MI.new (B:=B) An (BN l (B++BN l B.length).length);have ho:=MI.new (B:=B++BN l B.length) An [];rw[<-AT]at hm;rw[xz]at ho;have hl:4<=(BN l B.length).length:=by unfold BN;simp
 have hk:∀(a b:List ae) (i:Nat) (y:ae),a[i]? =some y->(a++b)[i]? =some y:=λa b i y h=>by rw[OR (pc.1 h).1];exact h
 refine⟨_,_,_,_,_,_,Dd l An.new,hk _ _,Dd l An.new,λi y h=>hk _ _ _ _ (hk _ _ _ _ h),⟨hm,ho,?_,?_⟩,rfl,rfl,rfl,rfl,Ij An⟩
 .show(B++BN l B.length).length+1≠B.length+1;rw[AS];omega
 .show(B++BN l B.length).length≠B.length;rw[AS];omega
theorem amW{at_}{rows}{m}{y}{r}{CE}(h:ta l at_ rows m=(y::r,CE)):
 ∃ins t,rows=ins::t/\(bp l at_ m ins).2.2=0/\(bp l at_ m ins).1=y/\ta l at_ t (bp l at_ m ins).2.1=(r,CE):=by
 cases rows with
 |nil=>simp[ta]at h
 |cons ins t=>
  rw[ta]at h;split at h
  next c=>simp only[Ce,DO]at h;exact⟨ins,t,rfl,c,h.1.1,Prod.ext h.1.2 h.2⟩
  .simp at h
theorem ase{at_}{rows}{m}{CE}(h:ta l at_ rows m=([],CE)):(rows=[]/\CE=0)\/∃ins t,rows=ins::t/\(bp l at_ m ins).2.2=CE/\CE≠0:=by
 cases rows with
 |nil=>simp[ta]at h;exact .inl ⟨rfl,h.symm⟩
 |cons ins t=>
  rw[ta]at h;split at h
  .simp at h
  next c=>simp only[Ce,Bt]at h;exact .inr ⟨ins,t,rfl,h,by rw[<-h];exact c⟩
noncomputable def aDp:Ab->Prop×J:=cH bA J5 λp rows=>(Te p/\Nt p/\∀r∈rows,sZ r,.bool true)
theorem aKr(p)(rows:List Bd):aDp [.agg (cE p),.sl (rows.map nU)]=(Te p/\Nt p/\∀r∈rows,sZ r,.bool true):=aY dY aep _ p rows
theorem aae:aJ Tryz.prog 3 aDp:=by
 refine aJ.se (ps:=[(5,zX),(6,Ik),(13,Ir),(9,aet),(12,sb),(11,Il)])
  (I:=[(7,xQ),(8,zU),(10,mr),(14,mM)])
  ⟨aCW,aDl,ay6,asf,akY,amK,BB⟩ ⟨amJ,aad,amI,amE,BB⟩ aDY λp rows h=>?_
 obtain⟨hc,u6,E⟩:=h;have e0:=aCV p;rw[lU (And.intro hc u6)]at e0;have eL:=aDn;have eN:=akZ;by_cases c:FC p=true;rotate_left
 .have c1:FC p=false:=by simpa using c
  rw[c1]at e0;generalize zW p=l at*;generalize Ip p=a at*;obtain⟨en,ns⟩:=p;obtain⟨len,lfs⟩:=l;simp only[cE,cD]at e0;exact ao (fj @jH.eq_1 @bA.eq_1 @J5.eq_1 e0) zz
 obtain⟨An,hA⟩:=ahz u6 c;rw[c,hA]at e0;clear hA;generalize zW p=l at*;obtain⟨en,ns⟩:=p;simp only[cE,cD]at e0;by_cases XC:(20:Int)<rows.length
 ·
  exact ao (fF @jH.eq_1 @bA.eq_1 @J5.eq_1 e0 XC) zz
 obtain⟨q1,q2,q3⟩:=amX An.L An.G An.V rows (aQ l (ax l)) (Fit.start An.L An.V) λr tO=>⟨BB,E r tO⟩;have Y:=ajr l (ax l) rows;rw[lU (show PG l/\qt l (ax l)=true/\rows.length<=1000/\K9 l (ax l) rows (aQ l (ax l)) from⟨An.G,An.V,by omega,q1⟩)]at Y;have z3:ta l (ax l) rows (aQ l (ax l))=ta l (ax l) rows (aQ l (ax l)):=rfl;generalize hW:ta l (ax l) rows (aQ l (ax l))=W at Y q2 q3;obtain⟨W,CE⟩:=W;dsimp only at Y q2 q3;have eJ:=PI.new An;simp only[cD]at Y eJ;obtain⟨H1,pm,H2,qm,x0,o0,j1,j2,j3,j4,hj,j6,j7,stx,sto,aKs⟩:=eJ [⟨.loc,2,[[.sl (l.enums.map kF),.sl (l.fs.map lf)]]⟩];have j2:=j2 0 _ rfl;have j4:=j4 0 _ rfl;have go:=λB x o (h:PI l B x o) ins hi I=>h.go An (ins:=ins) hi I;have kp:=λB x o (h:PI l B x o)=>h.m.kept An;have ko:=λB x o (h:PI l B x o)=>h.z.kept An;have sp:=λB x o (h:PI l B x o)=>h.m.steps An;have so:=λB x o (h:PI l B x o)=>h.z.steps An;have V1:=λB x o (h:PI l B x o)=>h.m.mem An;have wV:=λB x o (h:PI l B x o)=>h.z.mem An;have k1:=ko _ _ _ hj;rw[j7]at k1;refine ao (ey @jH.eq_1 @bA.eq_1 @J5.eq_1 e0 XC j1 j2 j3 (cL j4 k1 Y)) (JJ ?_);have e9:=zZ (b7 l o0.K) (b7 l o0.K);rw[lU (jn (wV _ _ _ hj)).1,ON rfl]at e9;have fin:∀H X,PI l H X o0->zU [.ptr qm 1 0 0] H=⟨True,.sl ((b7 l o0.K).map bf),H⟩/\mM [.ptr X.p 1 0 0] H=⟨True,.int .i64 X.r.steps,H⟩/\mM [.ptr qm 1 0 0] H=⟨True,.int .i64 0,H⟩:=λH X h=>by have a1:=ko _ _ _ h;have a2:=so _ _ _ h;rw[j7]at a1 a2;rw[sto]at a2;exact⟨a1,sp _ _ _ h,a2⟩
 refine aj W (λj (x:List ae×Mx)=>⟨[(1,.sl (rows.map nU)),(8,.ptr pm 1 0 0),(10,.ptr qm 1 0 0),(12,.sl ((b7 l o0.K).map bf)),(13,.sl (W.map nU)),(14,.int .i64 CE),(15,.int .i64 j)],x.1⟩)
  (λj r x=>PI l x.1 x.2 o0/\x.2.p=pm/\x.2.r.steps=(j:Int)/\ta l (ax l) (rows.drop j) (b7 l x.2.K)=(r,CE)) (H2,x0) trivial CT ⟨hj,j6,stx,by rw[List.drop_zero,aKs];exact hW⟩ (λj y t x d U He hq=>?_) (λj x e hq=>?_)
 .obtain⟨H,X⟩:=x;obtain⟨q1,p2,p3,p4⟩:=hq;dsimp only at q1 p2 p3 p4;obtain⟨ins,tr,r1,r2,r3,r4⟩:=amW p4;have Rj:rows[j]? =some ins:=by rw[<-List.head?_drop,r1];rfl
  have iv:rows.drop (j+1)=tr:=by rw[<-List.tail_drop,r1];rfl
  have hjr:=(pc.1 Rj).1;have gx:=ag nU Rj;have gy:=ag nU U;obtain⟨w1,w2⟩:=q3 y (ed U);have e4:=akX y y;rw[lU (show y.length<=1000000/\∀z∈y,z.length<=1000000 from⟨by omega,λz hz=>by have:=w2 z hz;omega⟩),ON rfl]at e4;obtain⟨H3,X3,t1,t2,t3,t4,t5⟩:=go H X o0 q1 ins (E ins (ed Rj)) (by rw[p3];omega);rw[Ut,gr r2,r3,p2]at t1;rw[gr r2,p3]at t4;rw[<-t5,<-iv]at r4;clear e0 Y j1 j2 j3 j4 k1 go kp ko sp so V1 wV fin;refine ao (rO d gx gy hjr t1 e4 eN) (JJ ?_);all_goals exact⟨(H3,X3),CT,t2,t3.trans p2,by rw[t4];omega,r4⟩
 .obtain⟨H,X⟩:=x;obtain⟨q1,p2,p3,p4⟩:=hq;dsimp only at q1 p2 p3 p4;subst e;rcases ase p4 with⟨r1,rfl⟩|⟨ins,tr,r1,r2,r3⟩
  .obtain⟨f1,f2,f3⟩:=fin H X q1;rw[p2,p3]at f2;clear e0 Y j1 j2 j3 j4 k1 go kp ko sp so V1 wV fin;exact ao (fj e9 f1 f2 f3) zz
  .have Rj:rows[W.length]? =some ins:=by rw[<-List.head?_drop,r1];rfl
   have hjr:=(pc.1 Rj).1;have gx:=ag nU Rj;have kb:=kp H X o0 q1;have hm:=V1 H X o0 q1;have hb:=(wF An.L An.G An.V hm (wG q1.m.f) (ins:=ins) trivial (E ins (ed Rj))).bad (by rw[r2];exact r3);obtain⟨H3,X3,t1,t2,t3,t4,t5⟩:=go H X o0 q1 ins (E ins (ed Rj)) (by rw[p3];omega);rw[Ut,ba (by rw[r2];exact r3),r2,p2]at t1;rw[ba (by rw[r2];exact r3),p3]at t4;rw[hb.2]at t5;have aDq:=kp H3 X3 o0 t2;obtain⟨f1,f2,f3⟩:=fin H3 X3 t2;rw[t3,p2,t4]at f2;rw[t3,p2,t5]at aDq;rw[p2]at kb;have e6:=zZ (b7 l X.K) (b7 l X.K);rw[lU (jn hm).1,ON rfl]at e6;clear e0 Y j1 j2 j3 j4 k1 go kp ko sp so V1 wV fin;exact ao (ey e9 gx hjr kb t1 aDq e6 eN (cL f1 f2 f3)) zz;all_goals exact absurd (by assumption) r3
theorem amY:Reads (.slice (.struct [.str,.slice (.int .i64)])) V0 Nr:=
 Reads.as (Reads.slice aeu) (λl=>l) (λ_=>rfl) (λ_ h=>h.2)
theorem execSteps_tells(T6)(h:Qm Tryz.prog [25,26,49] T6):FD Tryz.prog 4 T6 (.bool true):=by obtain⟨d1,r,rfl,h1,d2,r',rfl,h2,d3,r3,rfl,h3,rfl⟩:=h;obtain⟨p,rfl,B⟩:=asR (ss:=[.slice (.struct [.str,.slice .str]),.slice w5]) (by kernel_rfl) aCY h1;obtain⟨v,rfl,_,hv⟩:=XA (by kernel_rfl) aCZ h2;obtain⟨m,rfl,_,hm⟩:=XA (by kernel_rfl) amY h3;have e:=aKn p v m;have:=(aKo _ (by rw[e];exact⟨B.1,B.2,hv,hm⟩)).2;rw[e]at this;exact this
theorem execRuns_tells(T6)(h:Qm Tryz.prog [25,26] T6):FD Tryz.prog 3 T6 (.bool true):=by obtain⟨d1,r,rfl,h1,d2,r',rfl,h2,rfl⟩:=h;obtain⟨p,rfl,B⟩:=asR (ss:=[.slice (.struct [.str,.slice .str]),.slice w5]) (by kernel_rfl) aCY h1;obtain⟨v,rfl,_,hv⟩:=XA (by kernel_rfl) aCZ h2;have e:=aKr p v;have:=(aae _ (by rw[e];exact⟨B.1,B.2,hv⟩)).2;rw[e]at this;exact this
end Go.Proofs.YtldnkkkooabaeaaGreat

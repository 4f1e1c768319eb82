/- Machines that are made; the document's machines (26). -/
import Derived.Test.YtldnkkkooabaeaaGreatXcJ
set_option linter.all false
set_option maxRecDepth 20000
namespace Go.Proofs.YtldnkkkooabaeaaGreat
open Go.Nk
def kl(l:cT):Prop:=PG l/\qt l (ax l)=true/\∀f∈l.fs,f.eqs.length<=100000/\∀q∈f.eqs,q.on.length<=1000
@[reducible] def X7(f:Fl):ae:=⟨.loc,5,[lf f]⟩
@[reducible] def wU(c:cG):ae:=⟨.loc,2,[bf c]⟩
def Xw(l:cT):aP:=dZ (aQ l (ax l)) [] []
def BN(l:cT)(n:Nat):List ae:=gh (Xw l)::oM ⟨l,n+3,n+2,n,0⟩::⟨.aV,1,cW (mN l)⟩::oC l::(l.fs.map X7++(aQ l (ax l)).map wU)
noncomputable def xQ:Ab->List ae->o9:=iY (λ(X:cT×Nat) a B=>a=[.agg (cD X.1)]/\X.2=B.length) (λX=>(kl X.1,.b9 [.ptr (X.2+1) 1 0 0,.bool true])) λX B=>B++BN X.1 X.2
theorem Dd{B:List ae}(l)(ho:kl l):xQ [.agg (cD l)] B=⟨True,.b9 [.ptr (B.length+1) 1 0 0,.bool true],B++BN l B.length⟩:=by
 have:=fh (f:=λX:cT×Nat=>(kl X.1,J.b9 [.ptr (X.2+1) 1 0 0,.bool true])) (out:=λ(X:cT×Nat) B=>B++BN X.1 X.2) (r:=λ(X:cT×Nat) a B=>a=[.agg (cD X.1)]/\X.2=B.length) ?_ (x:=(l,B.length)) (a:=[.agg (cD l)]) (B:=B) ⟨rfl,rfl⟩
 .rw[lU (show kl l from ho)]at this;exact this
 .rintro⟨x1,x2⟩ ⟨y1,y2⟩ a B ⟨rfl,rfl⟩ ⟨h,rfl⟩
  grind[BO]
theorem ar5{B:List ae}{l}(t):yq (B++(BN l B.length++t)) ⟨B.length+1,⟨l,B.length+3,B.length+2,B.length,0⟩,Xw l⟩:=by unfold BN;refine⟨?_,?_,?_,?_⟩<;>simp_all
theorem ajs{l:cT}{j}(h:j<l.fs.length):(qx l).take (j+1)=(qx l).take j++[E1 l (j:Int)]:=by rw[List.take_add_one];simp[qx,h]
section
variable {B g t:List ae} {o o' a b c d:ae}
theorem amZ:(B++(a::b::c::d::(g++(o::t))))[B.length+(g.length+4)]? =some o:=by simp_all
theorem am0:(B++(a::b::c::d::(g++(o::t)))).set (B.length+(g.length+4)) o'=B++(a::b::c::d::(g++(o'::t))):=by simp_all
end
set_option maxHeartbeats 8000000 in
theorem amJ:ez Tryz.prog 7 xQ:=by
 refine ez.Vq (ps:=[(24,oG),(26,aml),(25,amr)]) (I:=[]) ⟨aCv,aJ0,aJ4,BB⟩ trivial aew (λx a B h=>by rw[h.1];rfl) λX a B h h1=>?_;obtain⟨l,n⟩:=X;obtain⟨rfl,rfl⟩:=h;obtain⟨hG,hV,hQ⟩:=h1;dsimp only at hG hV hQ|-;have PH:=hG.1.1.1.1;have hw:IntKind.i64.wrap ((l.fs.length:Int)-1)=ax l:=df (by omega);have eS:=λi=>mO l i;simp only[lU hG.1.1]at eS;have eR:=eS (ax l);rw[hV]at eR;have zQ:=nI l;have hSl:=(aju hG.1.1 (ax l)).2;have PJ:mN l=(aQ l (ax l)).map (·.path):=rfl;have hKd:Xw l=dZ (aQ l (ax l)) [] []:=rfl;unfold BN;have auQ:∀(j:Nat) (f:Fl),l.fs[j]? =some f->ad l (j:Int)=f:=λj f h=>by obtain⟨h1,rfl⟩:=pc.1 h;simp[ad,h1]
 obtain⟨en,fs⟩:=l;dsimp only at PH hw zQ hQ auQ|-;have aKi:=eS;simp only[cD]at eS eR
 ((have aF:=IT;refine aM.of ?_);(repeat' (first|((with_reducible refine aM.to ?_);(repeat(simp only[↓rP,rT,rU,eS,bC,aB,au,aO,cN,cX,FE,bw,aH,fH,iD,ik,J.bl,bj,bq,cz,b8,fK,bX,dC,J.one,ug,cellsOf,setFrom,J.D1,Nat.reduceEqDiff,Nat.reduceAdd,↓reduceIte,reduceCtorEq,Nat.reduceLeDiff,Nat.reduceLT,TO,atj,AT,Qq,aah,hw,hV,↓Qr,aF]))))))
 refine Or.inl (Or.inl ?_);have hQb:∀f∈fs,(lg f).length<=1000000/\∀s∈lg f,s.q.on.length<=1000:=λf hf=>by obtain⟨q1,q2⟩:=hQ f hf;have:=List.length_filter_le wz f.eqs;refine⟨by simp[lg];omega,λs I=>?_⟩;simp only[lg,pt,It,PC]at I;rcases I with⟨q,hq,rfl⟩|⟨q,⟨hq,_⟩,rfl⟩<;>exact q2 q hq
 generalize hl:(⟨en,fs⟩:cT)=l at*;have Iw:∀j:Nat,j<=fs.length->((qx l).take j).length=j:=λj h=>by simp_all
 refine aj fs (λj (G:List ae)=>⟨[(1,.ref (cD l)),(4,.sl ((aQ l (ax l)).map bf)),(6,.ptr (B.length+1) 1 0 0),(29,.sl (fs.map lf)),(30,.int .i64 fs.length),(31,.int .i64 j)],
  B++(⟨.mp [],0,[]⟩::⟨.loc,6,[[.sl (en.map kF),.sl (fs.map lf),.own (B.length+3) j 0 j,.own (B.length+2) 0 0 0,.mp B.length,.int .i64 0]]⟩::⟨.aV,1,[]⟩::⟨.aV,7,(qx l).take j⟩::G)⟩)
  (λj r G=>G++r.map X7=fs.map X7) [] trivial CT rfl (λj f r G d U Z E=>?_) (λj G e E=>?_)
 .have Ss:j<fs.length:=(pc.1 U).1;have gf:=ag lf U;have hf:=ed U;have e2:=aex f;rw[lU (show f.eqs.length<=1000000 by grind)]at e2;have e3:=aai (UX f);rw[lU (show(UX f).body.length<=1000000/\∀s∈(UX f).body,s.q.on.length<=1000 from hQb f hf)]at e3;have hcR:=ajs (l:=l) (j:=j) (by grind);rw[E1,auQ j f U]at hcR;have Y:=aKi j;simp only[UX]at e2 e3;have mP:=Iw j (by omega);refine sM (ey @Rd.eq_1 @amZ @am0 @aak @aal d gf Y (fj e2 e3 mP (CD hcR))) (JJ ?_);all_goals exact⟨G++[X7 f],(CF @hcR),by simp_all⟩
 simp only[DD,xz]at E;subst E;have ht:(qx l).take fs.length=qx l:=vc (by omega);have hof:oC l=⟨.aV,7,qx l⟩:=rfl;rw[PJ,hKd];generalize aQ l (ax l)=S at*;refine ao (bV e ht) (JJ ?_);refine aj S (λj (x:aP×BS×List ae)=>⟨[(6,.ptr (B.length+1) 1 0 0),(58,.sl (S.map bf)),(59,.int .i64 S.length),(60,.int .i64 j)],
  B++(gh x.1::⟨.loc,6,[[.sl (en.map kF),.sl (fs.map lf),.own (B.length+3) fs.length 0 fs.length,.own (B.length+2) x.2.1.length 0 x.2.1.length,.mp B.length,.int .i64 0]]⟩::⟨.aV,1,cW x.2.1⟩::⟨.aV,7,qx l⟩::x.2.2)⟩)
  (λj r x=>dZ r [] x.1=dZ S [] []/\x.2.1++r.map (·.path)=S.map (·.path)/\x.2.2++r.map wU=fs.map X7++S.map wU) ([],[],fs.map X7) trivial CT ⟨rfl,rfl,rfl⟩ (λj q r x d U Z E=>?_) (λj x ej E=>?_)
 .obtain⟨K1,P,G⟩:=x;have gq:=ag bf U;obtain⟨qp,qv⟩:=q;obtain⟨h1,h2,h3⟩:=E;dsimp only at h1 h2 h3;have hPl:=C2 List.length h2;simp only[AS,Pe,IS]at hPl;have h1:dZ r [] (jR qp qv K1)=dZ S [] []:=h1;refine sM (ey @ak @amZ @am0 @aam @aan d gq @C3.{0,0} @lQ) (JJ ?_);all_goals exact⟨(jR qp qv K1,P++[qp],G++[wU ⟨qp,qv⟩]),(CF @Ix),h1,by simp_all,by simp_all⟩
 .obtain⟨K1,P,G⟩:=x;obtain⟨h1,h2,h3⟩:=E;have h1:K1=dZ S [] []:=h1;simp only[DD,xz]at h2 h3;subst h1 h2 h3;refine ao @ej (JJ ?_);grind
structure EY(l:cT):Prop where
 L:lh l
 G:PG l
 V:qt l (ax l)=true
variable {l:cT}
theorem EY.few(An:EY l):l.fs.length<=10:=An.G.1.1.1.1
theorem EY.pos(An:EY l):0<l.fs.length:=by have:=(kG An.V).1;unfold ax at this;omega
theorem EY.new(An:EY l):kl l:=⟨An.G,An.V,λf hf=>by obtain⟨i,hi⟩:=adm hf;have h:=An.L.xP i f hi;exact⟨h.sz.2.2,λq hq=>(h.eq q hq).len.1⟩⟩
theorem EY.wide(An:EY l):BP l:=⟨An.G.1.2,λf hf=>by have:=(An.new.2.2 f hf).1;omega⟩
theorem EY.start(An:EY l):aQ l (ax l)=bh l 11 (ax l):=by rw[aQ,gr An.V]
theorem EY.paths(An:EY l):mN l=(aK l 11 (ax l)).map (·.1):=by have:mN l=(aQ l (ax l)).map (·.path):=rfl;rw[this,An.start,pU]
theorem De(An:EY l)(K):b7 l K=bI (aK l 11 (ax l)) [] K:=by unfold b7 bI;rw[An.paths,Ei];rfl
theorem Ij(An:EY l):b7 l (Xw l)=aQ l (ax l):=by rw[De An];unfold Xw;rw[An.start];exact aC5 (λa=>An.L.names a) 11 (ax l) [] []
theorem aDh(hN:∀at_:Int,nJ (ad l at_)):∀(n:Nat) (at_:Int),(aK l n at_).Pairwise λa b=>a.1≠b.1
 |0,_=>List.Pairwise.nil
 |n+1,at_=>by
  have hb:=(hN at_).bar;have ho:=(hN at_).one;rw[aK,Cz];refine⟨MH.2 (ho.filter _),List.pairwise_flatMap.2 ⟨λq hq=>MH.2 ((aDh hN n q.node).imp λh e=>h (List.append_cancel_left e)),?_⟩,?_⟩
  .refine List.Pairwise.imp_of_mem (λ{a b} ha Ki h x U y hy e=>?_) (ho.filter _);obtain⟨x',_,rfl⟩:=It.1 U;obtain⟨y',_,rfl⟩:=It.1 hy;exact h (uQ (hb a (PC.1 ha).1) (hb b (PC.1 Ki).1) e).1
  .intro x U y hy e;obtain⟨q,hq,rfl⟩:=It.1 U;obtain⟨r,E,hy⟩:=Eg.1 hy;obtain⟨y',_,rfl⟩:=It.1 hy;exact xS (hb q (PC.1 hq).1) e
theorem aDi{en}:∀{s:Shape} {m:List cG},mb en s m->m.map (·.path)=s.map (·.1)
 |[],[],_=>rfl
 |x::s,c::m,h=>by simp[h.1,aDi h.2.2]
 |[],_::_,h=>h.elim
 |_::_,[],h=>h.elim
theorem ajv(An:EY l){c}(h:Fit l (ax l) c)(K):b7 l (dZ c [] K)=c:=by
 have e:=aDi h;have B:c.Pairwise λa b=>a.path≠b.path:=by have h1:=MH.2 (aDh (λa=>An.L.names a) 11 (ax l));grind
 unfold b7;rw[An.paths,<-e,Ei]
 conv=>rhs;rw[<-List.map_id c]
 refine KU λx U=>?_;have hu:∀d∈c,d.path=x.path->d=x:=λd Z he=>by grind[adm,pc,Nat.lt_trichotomy,absurd,List.pairwise_iff_getElem,abc]
 have:=alD (ah:=[]) (K:=K) U hu;simp_all[Function.comp,id,dT,Bz]
theorem ajm(An:EY l){c}(u6:Nr c)(K):b7 l (AY l c K)=if fI l (ax l) c then c else b7 l K:=by unfold AY;by_cases h:fI l (ax l) c=true<;>simp_all[gr,ajv,ak1,ba]
theorem ar6(An:EY l){K}(hm:Fit l (ax l) (b7 l K)):Qw l K:=by
 have h:=Fit.mem An.L An.V hm;refine⟨An.pos,?_,λc hc=>(h.2 c hc).1⟩;have:(b7 l K).length=(mN l).length:=by simp[b7]
 have:=h.1;omega
theorem aji(An:EY l){r:Mr}(hl:r.l=l){K}{ins}(hm:Fit l (ax l) (b7 l K))(hi:sZ ins)(I:0<=r.steps/\r.steps<=1000):
 Df r K ins/\La r K ins=(if(bp l (ax l) (b7 l K) ins).2.2=0 then .b9 [.sl ((bp l (ax l) (b7 l K) ins).1.map cy),.int .i64 0]else .b9 [.nil,.int .i64 (bp l (ax l) (b7 l K) ins).2.2])/\
 ((zV r.l ins=true/\(ff r.l K ins).2=0)↔(bp l (ax l) (b7 l K) ins).2.2=0)/\
 b7 l (if zV r.l ins=true/\(ff r.l K ins).2=0 then(ff r.l K ins).1.1 else K)=(bp l (ax l) (b7 l K) ins).2.1:=by
 subst hl;have hS:=wF An.L An.G An.V (Fit.mem An.L An.V hm) (wG hm) (ins:=ins) trivial hi;have hf:=am1 An.V hm;have hw:=An.few;have B:=An.pos;have Lb:(ad r.l (ax r.l)).outs.length<=1000:=by obtain⟨h0,h1⟩:=kG An.V;obtain⟨i,_,hf⟩:=iE h0 h1;exact(An.L.xP i _ hf).sz.2.1
 have PK:bp r.l (ax r.l) (b7 r.l K) ins=if zV r.l ins=false then([],b7 r.l K,18)else bK r.l 11 (ax r.l) (b7 r.l K) ins:=by rw[bp,ba (by simp_all)];rfl
 cases hI:zV r.l ins
 .rw[PK,hI,gr rfl];refine⟨⟨An.wide,B,by omega,trivial,I,λh=>by simp_all⟩,?_,by simp,by simp⟩;unfold La;simp_all
 have PK:bp r.l (ax r.l) (b7 r.l K) ins=bK r.l 11 (ax r.l) (b7 r.l K) ins:=by simp_all
 have hio:=am2 hI hi;have hB:=aC8 An.L (by omega) 11 (ax r.l) (by unfold ax;omega) (by omega) An.V [] K ins (by simp) (by rw[<-De An];exact hm) hio;rw[<-De An]at hB;obtain⟨b1,b2,b3⟩:=hB;have mQ:ff r.l K ins=aX r.l 11 (ax r.l) [] K (bu ((ad r.l (ax r.l)).ins.map (·.name)) ins []):=rfl;rw[<-mQ,<-PK]at b2;rw[<-mQ,<-PK]at b3;by_cases c0:(ff r.l K ins).2=0
 .obtain⟨b4,aKj,_⟩:=b3 c0;have c1:(bp r.l (ax r.l) (b7 r.l K) ins).2.2=0:=by omega
  have ho:=(ak2 (hS.xP c1).1).2.1;have xT:u9 r.l (ax r.l) (ff r.l K ins).1.2=(bp r.l (ax r.l) (b7 r.l K) ins).1:=b4;refine⟨⟨An.wide,B,by omega,trivial,I,λ_=>⟨b1,Lb,λ_ y hy=>?_⟩⟩,?_,⟨λ_=>c1,λ_=>⟨rfl,c0⟩⟩,?_⟩
  .grind
  .unfold La;simp_all
  .rw[gr ⟨rfl,c0⟩,De An];exact aKj
 .have c1:¬(bp r.l (ax r.l) (b7 r.l K) ins).2.2=0:=by omega
  obtain⟨k1,k2⟩:=hS.bad c1;refine⟨⟨An.wide,B,by omega,trivial,I,λ_=>⟨b1,Lb,λh=>absurd h c0⟩⟩,?_,⟨λh=>absurd h.2 c0,λh=>absurd h c1⟩,?_⟩
  .unfold La;simp_all
  simp_all
structure Wx where
 q:Nat
 l:cT
 m:List cG
 n:Int
@[reducible] def oW(w:Wx):ae:=⟨.loc,4,[[.sl (w.l.enums.map kF),.sl (w.l.fs.map lf),.sl (w.m.map bf),.int .i64 w.n]]⟩
def Hj(B:List ae)(w:Wx):Prop:=B[w.q]? =some (oW w)
theorem Hj.u{B}{x y:Wx}(h:Hj B x)(h':Hj B y)(e:x.q=y.q):x=y:=by obtain⟨q,⟨en,fs⟩,m,n⟩:=x;obtain⟨q',⟨en',fs'⟩,m',n'⟩:=y;dsimp only at e;subst e;have:=abc (h.symm.trans h');simp only[oW,ae.mk.injEq,DO,J.sl.injEq,J.int.injEq,Bt,Xv]at this;obtain⟨h1,h2,h3,rfl⟩:=this;grind[map_inj,sN,Dg,s8]
noncomputable def Xy:Ab->List ae->o9:=iY (λ(X:cT×Nat) a B=>a=[.agg (cD X.1)]/\X.2=B.length) (λX=>(PG X.1/\qt X.1 (ax X.1)=true,.b9 [.ptr X.2 1 0 0,.bool true])) λX B=>B++[oW ⟨X.2,X.1,aQ X.1 (ax X.1),0⟩]
theorem ajl{B:List ae}(l)(ho:PG l/\qt l (ax l)=true):Xy [.agg (cD l)] B=⟨True,.b9 [.ptr B.length 1 0 0,.bool true],B++[oW ⟨B.length,l,aQ l (ax l),0⟩]⟩:=by
 have:=fh (f:=λX:cT×Nat=>(PG X.1/\qt X.1 (ax X.1)=true,J.b9 [.ptr X.2 1 0 0,.bool true])) (out:=λ(X:cT×Nat) B=>B++[oW ⟨X.2,X.1,aQ X.1 (ax X.1),0⟩]) (r:=λ(X:cT×Nat) a B=>a=[.agg (cD X.1)]/\X.2=B.length) ?_ (x:=(l,B.length)) (a:=[.agg (cD l)]) (B:=B) ⟨rfl,rfl⟩
 .rw[lU (show PG l/\qt l (ax l)=true from ho)]at this;exact this
 .rintro⟨x1,x2⟩ ⟨y1,y2⟩ a B ⟨rfl,rfl⟩ ⟨h,rfl⟩
  grind[BO]
theorem asc:ez Tryz.prog 15 Xy:=by refine ez.Vq (ps:=[(23,oG)]) (I:=[]) ⟨iL,BB⟩ trivial aEb (λx a B h=>by rw[h.1];rfl) λX a B h h1=>?_;obtain⟨l,n⟩:=X;obtain⟨rfl,rfl⟩:=h;obtain⟨hG,hV⟩:=h1;dsimp only at hG hV|-;have PH:=hG.1.1.1.1;have hw:IntKind.i64.wrap ((l.fs.length:Int)-1)=ax l:=df (by omega);have eR:=mO l (ax l);rw[lU hG.1.1,hV]at eR;generalize aQ l (ax l)=S at*;generalize ax l=a at*;obtain⟨en,fs⟩:=l;dsimp only at hw;simp only[cD]at eR;exact ao (cL @ato.eq_1 hw eR) zz
def Uu{α:Type}(args:α->Ab)(X:Wx×α)(a:Ab)(B:List ae):Prop:=a= .ptr X.1.q 1 0 0::args X.2/\Hj B X.1
theorem Uu.u{α}{args:α->Ab}(ha:tP args):∀(X Cp:Wx×α) (a:Ab) (B:List ae),Uu args X a B->Uu args Cp a B->X=Cp:=by
 rintro⟨x,u⟩ ⟨y,v⟩ a B ⟨rfl,h1⟩ ⟨h,h2⟩
 simp only[DO,J.ptr.injEq,Xv]at h;exact Prod.ext (Hj.u h1 h2 h.1) (ha _ _ h.2)
def EZ(w:Wx)(ins:Bd):Wx:=if(bp w.l (ax w.l) w.m ins).2.2=0 then⟨w.q,w.l,(bp w.l (ax w.l) w.m ins).2.1,w.n+1⟩else w
noncomputable def Io:=iY (Uu λins:Bd=>[.sl (ins.map cy)]) (λX=>(okF X.1.l (ax X.1.l) X.1.m X.2/\0<=X.1.n/\X.1.n<=1000,.b9 [.sl ((bp X.1.l (ax X.1.l) X.1.m X.2).1.map cy),.int .i64 (bp X.1.l (ax X.1.l) X.1.m X.2).2.2])) λX B=>one B X.1.q (oW (EZ X.1 X.2))
theorem aen{B}{w:Wx}(h:Hj B w)(ins:Bd)(ho:okF w.l (ax w.l) w.m ins/\0<=w.n/\w.n<=1000):Io [.ptr w.q 1 0 0,.sl (ins.map cy)] B=⟨True,.b9 [.sl ((bp w.l (ax w.l) w.m ins).1.map cy),.int .i64 (bp w.l (ax w.l) w.m ins).2.2],one B w.q (oW (EZ w ins))⟩:=by have:=fh (f:=λX:Wx×Bd=>(okF X.1.l (ax X.1.l) X.1.m X.2/\0<=X.1.n/\X.1.n<=1000,J.b9 [.sl ((bp X.1.l (ax X.1.l) X.1.m X.2).1.map cy),.int .i64 (bp X.1.l (ax X.1.l) X.1.m X.2).2.2])) (out:=λX B=>one B X.1.q (oW (EZ X.1 X.2))) (Uu.u aDg) (x:=(w,ins)) (a:=[.ptr w.q 1 0 0,.sl (ins.map cy)]) (B:=B) ⟨rfl,h⟩;rw[lU (show okF w.l (ax w.l) w.m ins/\0<=w.n/\w.n<=1000 from ho)]at this;exact this
theorem amU:ez Tryz.prog 20 Io:=by
 refine ez.I0 (ps:=[(29,PL)]) (I:=[]) ⟨aao,BB⟩ trivial aEk (λx a B h=>by rw[h.1];rfl) λX a B h lO=>?_;obtain⟨⟨q,l,m,n⟩,ins⟩:=X;obtain⟨rfl,g⟩:=h;obtain⟨hF,hn⟩:=lO;dsimp only at hF hn|-;have g0:B[q]? =some (oW ⟨q,l,m,n⟩):=g;have gq:=g0;have gs:∀o,B.set q o=one B q o:=λ_=>rfl;have aDj:∀o,(one B q o)[q]? =some o:=λo=>by grind
 have gz:∀o o',(one B q o).set q o'=one B q o':=λo o'=>by unfold one;rw[List.set_set]
 have PH:=hF.1.1.1.1.1;have hw:IntKind.i64.wrap ((l.fs.length:Int)-1)=ax l:=df (by omega);have Uw:IntKind.i64.wrap (n+1)=n+1:=df (by omega);have e3:=aCS l (ax l) m ins;rw[lU hF]at e3;have oH:∀m n,∀(i:Nat) (o:ae),(one B q (oW ⟨q,l,m,n⟩))[i]? =some o->B[i]? =some o\/o.cut B.length=o:=λm n=>Iy rfl;have h0:B=one B q (oW ⟨q,l,m,n⟩):=(Qy g0).symm;have hD:EZ ⟨q,l,m,n⟩ ins=if(bp l (ax l) m ins).2.2=0 then⟨q,l,(bp l (ax l) m ins).2.1,n+1⟩else⟨q,l,m,n⟩:=rfl;rw[hD];generalize bp l (ax l) m ins=An at*;obtain⟨R1,R2,R3⟩:=An;generalize ax l=a at*;obtain⟨en,fs⟩:=l;dsimp only at hw e3 gq gs aDj gz|-;simp only[cD]at e3;by_cases c0:R3=0
 .subst c0;rw[gr rfl];have oH:=oH R2 (n+1);clear h0 g;refine ao (tM @nY.eq_1 gq gs aDj gz hw Uw e3) (JJ ?_);simp_all[one]
 .rw[ba c0];have oH:=oH m n;refine ao (fj @nY.eq_1 gq hw e3) (JJ (λhn=>?_));all_goals first|exact⟨by simp[one],⟨[],by grind⟩,oH⟩|exact⟨⟨[],by rw[xz];exact h0⟩,oH⟩|exact absurd (by assumption) c0|exact oH
def Vl(w:Wx)(c:List cG):Wx:=if fI w.l (ax w.l) c then⟨w.q,w.l,c,w.n⟩else w
noncomputable def PE:=iY (Uu λc:List cG=>[.sl (c.map bf)]) (λX=>(PG X.1.l/\kE X.2,.bool (fI X.1.l (ax X.1.l) X.2))) λX B=>one B X.1.q (oW (Vl X.1 X.2))
theorem aem{B}{w:Wx}(h:Hj B w)(c:List cG)(ho:PG w.l/\kE c):PE [.ptr w.q 1 0 0,.sl (c.map bf)] B=⟨True,.bool (fI w.l (ax w.l) c),one B w.q (oW (Vl w c))⟩:=by have:=fh (f:=λX:Wx×List cG=>(PG X.1.l/\kE X.2,J.bool (fI X.1.l (ax X.1.l) X.2))) (out:=λX B=>one B X.1.q (oW (Vl X.1 X.2))) (Uu.u aDf) (x:=(w,c)) (a:=[.ptr w.q 1 0 0,.sl (c.map bf)]) (B:=B) ⟨rfl,h⟩;rw[lU (show PG w.l/\kE c from ho)]at this;exact this
theorem amT:ez Tryz.prog 19 PE:=by
 refine ez.I0 (ps:=[(41,Le)]) (I:=[]) ⟨aap,BB⟩ trivial aEj (λx a B h=>by rw[h.1];rfl) λX a B h lO=>?_;obtain⟨⟨q,l,m,n⟩,c⟩:=X;obtain⟨rfl,g⟩:=h;obtain⟨hG,hM⟩:=lO;dsimp only at hG hM|-;have g0:B[q]? =some (oW ⟨q,l,m,n⟩):=g;have gq:=g0;have gs:∀o,B.set q o=one B q o:=λ_=>rfl;have PH:=hG.1.1.1.1;have hw:IntKind.i64.wrap ((l.fs.length:Int)-1)=ax l:=df (by omega);have e3:=akt l (ax l) c;rw[lU (And.intro hG hM)]at e3;have oH:∀m n,∀(i:Nat) (o:ae),(one B q (oW ⟨q,l,m,n⟩))[i]? =some o->B[i]? =some o\/o.cut B.length=o:=λm n=>Iy rfl;have h0:B=one B q (oW ⟨q,l,m,n⟩):=(Qy g0).symm;have hD:Vl ⟨q,l,m,n⟩ c=if fI l (ax l) c then⟨q,l,c,n⟩else⟨q,l,m,n⟩:=rfl;rw[hD];generalize fI l (ax l) c=b at*;generalize ax l=a at*;obtain⟨en,fs⟩:=l;dsimp only at hw e3 gq gs|-;simp only[cD]at e3;cases b
 .rw[ba (by decide)];have oH:=oH m n;refine ao (fj @nZ.eq_1 gq hw e3) (JJ ?_);all_goals first|exact⟨by simp[one],⟨[],by grind⟩,oH⟩|exact⟨⟨[],by rw[xz];exact h0⟩,oH⟩|exact absurd (by assumption) c0|exact oH
 .rw[gr rfl];have oH:=oH c n;clear h0 g;refine ao (fF @nZ.eq_1 gq gs hw e3) (JJ ?_);simp_all[one]
theorem amK:aJ Tryz.prog 11 Il:=by refine aJ.mS (ps:=[]) (I:=[]) trivial trivial aD7 λe _=>?_;exact ao @atm.eq_1 zz
end Go.Proofs.YtldnkkkooabaeaaGreat

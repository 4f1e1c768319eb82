/- What a Flow keeps at first: the document's. -/
import Derived.Test.YtldnkkkooabaeaaGreatMsD
set_option linter.all false
set_option maxRecDepth 20000
namespace Go.Proofs.YtldnkkkooabaeaaGreat
open Go.Nk
def aw(q:Pl):B3:=q.names.getD 0 []
def OX(q:Pl):cG:=⟨aw q,q.init⟩
def jh(p:B3)(c:cG):cG:=⟨p++c.path,c.dK⟩
def bh(l:cT):Nat->Int->List cG
 |0,_=>[]
 |n+1,at_=>((ad l at_).eqs.filter gF).map OX++((ad l at_).eqs.filter (bt at_)).flatMap λq=>(bh l n q.node).map (jh (aw q++[47]))
def Ti(q:Pl):Prop:=8*q.init.length<=bN/\∀s∈q.names,s.length<=bN
def okW(l:cT):Prop:=_R l/\∀f∈l.fs,∀q∈f.eqs,Ti q
theorem C9{q:Pl}(h:Ti q):(aw q).length<=bN:=by
 unfold aw;cases hn:q.names with
 |nil=>simp
 |cons a r=>exact h.2 a (by rw[hn];simp)
theorem Qf{l:cT}(h:okW l){at_:Int}{q:Pl}(hq:q∈(ad l at_).eqs):Ti q:=by
 unfold ad at hq;rcases GK at_.toNat l.fs.length with h1|h1
 .rw[BY,tx h1]at hq;exact h.2 _ (MJ h1) _ hq
 simp_all[BY,XO,default]
theorem HZ{l:cT}(h:okW l):∀(n:Nat) (at_:Int),∀c∈bh l n at_,c.path.length<=n*281474976710656/\8*c.dK.length<=bN
 |0,_,c,hc=>by simp[bh]at hc
 |n+1,at_,c,hc=>by
  simp only[bh,pt,It,Eg]at hc;rcases hc with⟨q,hq,rfl⟩|⟨q,hq,c',kX,rfl⟩
  .have hw:=Qf h (PC.1 hq).1;have:=C9 hw;simp only[bN,OX]at this|-;exact⟨by omega,hw.1⟩
  .have hw:=Qf h (PC.1 hq).1;have h1:=C9 hw;have h2:=HZ h n q.node c' kX;grind[bN,jh,AS,IS,Cd]
theorem FZ:∀{l:List Nat} {x:Nat},x∈l->x<=l.sum
 |a::l,x,h=>by
  rcases NO.1 h with rfl|h
  .simp
  .have:=FZ h;simp;omega
theorem ai6{l:cT}{n:Nat}{at_:Int}{q:Pl}(hq:q∈(ad l at_).eqs.filter (bt at_)):(bh l n q.node).length<=(bh l (n+1) at_).length:=by
 have h1:((bh l n q.node).map (jh (aw q++[47]))).length<=(((ad l at_).eqs.filter (bt at_)).flatMap λq=>(bh l n q.node).map (jh (aw q++[47]))).length:=by rw[List.length_flatMap];exact FZ (It.2 ⟨q,hq,rfl⟩)
 grind[bh,AS,Pe]
def dq(l:cT)(at_:Int)(n:Nat):Prop:=okW l/\0<=at_/\at_<n/\at_<l.fs.length/\n<=11/\(bh l n at_).length<=1000
noncomputable def KR(n:Nat):Ab->Prop×J:=cH mc eI λl at_=>(dq l at_ n,.sl ((bh l n at_).map bf))
theorem azP(n:Nat)(l:cT)(at_:Int):KR n [.agg (cD l),.int .i64 at_]=(dq l at_ n,.sl ((bh l n at_).map bf)):=aY sR cF _ l at_
theorem al2(x:Pl)(o:List cG):o.map bf++[[.str (aw x),.sl (cC x.init)]]=(o++[OX x]).map bf:=by simp[OX]
theorem al3(p:B3)(c:cG)(o:List cG):o.map bf++[[.str (p++c.path),.sl (cC c.dK)]]=(o++[jh p c]).map bf:=by simp[jh]
theorem auD(x:cG)(o:List cG):o.map bf++[[.str x.path,.sl (cC x.dK)]]=(o++[x]).map bf:=by simp
theorem adR:∀n,aJ Tryz.prog 48 (KR n)
 |0=>λa h=>by
  exfalso;unfold KR cH at h;split at h
  .obtain⟨_,h1,h2,_⟩:=h;omega
  omega
 |n+1=>by
  refine aJ.se (ps:=[(78,Qg),(48,KR n)]) (I:=[]) ⟨azL,adR n,BB⟩ trivial aEK λl at_ h=>?_;obtain⟨hw,h0,h1,h2,h3,h4⟩:=h;obtain⟨m,rfl⟩:∃m:Nat,at_=m:=⟨at_.toNat,by omega⟩;have hg:l.fs[m]? =some (ad l m):=by simp_all[ad]
  have UM:(ad l m).eqs.length<=bN:=hw.1.2 _ (ed hg);simp only[bN]at UM;have og:∀q∈(ad l m).eqs.filter (bt m),(bh l n q.node).length<=1000:=λq hq=>D0 (ai6 hq) h4;have Jw:∀q∈(ad l m).eqs,Ti q:=λq hq=>Qf hw hq;generalize Kp:bh l (n+1) m=res at h4|-;have TG:=Kp;simp only[bh]at TG;generalize hf:ad l m=f at hg UM og Jw TG;have Hr:m<l.fs.length:=by omega
  dsimp only;refine ao (fj @atz.eq_1 @mc.eq_1 (ag lf hg) Hr) (JJ ?_);refine aj f.eqs (λj (out:List cG)=>⟨[(1,.int .i64 m),(2,.ref (cD l)),(5,.own 0 out.length 0 out.length),(6,.ptr 1 1 0 0),(7,.int .i64 j)],[⟨.aV,2,out.map bf⟩,⟨.loc,5,[lf f]⟩]⟩)
   (λj r out=>out++((r.filter gF).map OX++(f.eqs.filter (bt m)).flatMap λq=>(bh l n q.node).map (jh (aw q++[47])))=res) [] (AI _) CT TG (λj x r out d U Z E=>?_) (λj out ej E=>?_)
  .have Y:=H0 x m;simp only[iK]at Y;have hle:out.length<=1000:=by grind
   by_cases cf:gF x=true
   .rw[cf]at Y;rw[Cw,gr cf,p0]at E;have bP:0<x.names.length:=by simp_all[gF,ab,ir]
    have b1:(cW x.names).getD 0 []=[.str (aw x)]:=CG bP;refine ao (fF @ak d (ag iK U) Y b1) (JJ ?_);exact⟨out++[OX x],(CF @al2),by simp_all⟩
   .have cf:gF x=false:=by simp_all
    rw[cf]at Y;rw[Cw,ba (by simp[cf])]at E;refine ao (cL d (ag iK U) Y) (JJ ?_);exact⟨out,CT,E⟩
  .simp only[List.filter_nil,DD,Bz]at E;refine ao @ej (JJ ?_);refine aj f.eqs (λj (out:List cG)=>⟨[(1,.int .i64 m),(2,.ref (cD l)),(5,.own 0 out.length 0 out.length),(6,.ptr 1 1 0 0),(10,.int .i64 j)],[⟨.aV,2,out.map bf⟩,⟨.loc,5,[lf f]⟩]⟩)
    (λj r out=>out++((r.filter (bt m)).flatMap λq=>(bh l n q.node).map (jh (aw q++[47])))=res) out (AI _) CT E (λj x r out d U Z E=>?_) (λj out ej E=>?_)
   .have Y:=H0 x m;simp only[iK]at Y;by_cases cc:bt m x=true
    .rw[cc]at Y;rw[Cw,gr cc,Cq]at E;have UT:x∈f.eqs:=ed U;have hq:=cc;simp only[bt,ab,ir]at hq;obtain⟨_,bP,n0,n1⟩:=hq;have b1:(cW x.names).getD 0 []=[.str (aw x)]:=CG bP;have e2:=azP n l x.node;rw[lU (show dq l x.node n from⟨hw,n0,by omega,by omega,by omega,og x (PC.2 ⟨UT,cc⟩)⟩)]at e2;have D9:=C9 (Jw x UT);have PJ:=HZ hw n x.node;have _W:(bh l n x.node).length<=1000:=og x (PC.2 ⟨UT,cc⟩);simp only[bN]at D9;generalize bh l n x.node=sub at e2 E PJ _W;refine ao (fj d (ag iK U) Y e2) (JJ ?_);refine aj sub (λi (out:List cG)=>⟨[(1,.int .i64 m),(2,.ref (cD l)),(5,.own 0 out.length 0 out.length),(6,.ptr 1 1 0 0),(10,.int .i64 j),(13,.sl (sub.map bf)),(14,.int .i64 i)],[⟨.aV,2,out.map bf⟩,⟨.loc,5,[lf f]⟩]⟩)
      (λi r3 out=>out++(r3.map (jh (aw x++[47]))++((r.filter (bt m)).flatMap λq=>(bh l n q.node).map (jh (aw q++[47]))))=res) out (AI _) CT E (λi c r3 out d3 hc hd3 WU=>?_) (λi out ei WU=>?_)
     .have hle:out.length<=1000:=by grind
      have zQ:=(PJ c (ed hc)).1;have aGa:n<=10:=by omega
      have aLs:c.path.length<=10*281474976710656:=D0 zQ (aba _ aGa);rw[p0]at WU;refine ao (rO @ak d3 d (ag iK U) (ag bf hc) b1 @gj.eq_1) (JJ ?_);exact⟨out++[jh (aw x++[47]) c],(CF @al3),by simp_all⟩
     .rw[DD,Bz]at WU;refine ao @ei (JJ ?_);exact⟨out,CT,WU⟩
    .have cc:bt m x=false:=by simp_all
     rw[cc]at Y;rw[Cw,ba (by simp[cc])]at E;refine ao (cL d (ag iK U) Y) (JJ ?_);exact⟨out,CT,E⟩
   .simp only[List.filter_nil,List.flatMap_nil,xz]at E;subst E;exact ao (bV @Dl ej) zz
theorem TE(l:cT):∀(K j:Nat),j<K->(kZ l K).getD j (0,0)=(kZ l (j+1)).getD j (0,0)
 |0,j,h=>by omega
 |K+1,j,h=>by
  rcases GK j K with h1|h1
  .rw[<-TE l K j h1];simp_all[kZ,BY,OR,nG]
  grind
theorem Nj(l:cT)(i:Nat):(kZ l (i+1)).getD i (0,0)=rowOf (kZ l i) i (ad l i):=by simp_all[kZ,BY,IF,nG,By]
theorem ai7{T:List (Int×Int)}{len:Pl->Nat}:∀(qs:List Pl) (a:Int),0<=a->(∀q∈qs,(Yv T q).1=min (len q:Int) 1000)->min (a+HX T qs) 1000=min (a+((qs.map len).sum:Nat)) 1000
 |[],a,_,_=>by simp[HX]
 |q::qs,a,h0,h=>by have h1:=h q (by simp);have h2:=ai7 qs (a+(Yv T q).1) (by omega) λq hq=>h q (by simp[hq]);grind[HX,p0]
theorem al4(l:cT):∀(i n:Nat),i<n->((kZ l (i+1)).getD i (0,0)).1=min ((bh l n i).length:Int) 1000:=by
 intro i;induction i using Nat.strongRecOn with
 |_ i ih=>
  intro n hn;obtain⟨n,rfl⟩:∃k,n=k+1:=⟨n-1,by omega⟩;rw[Nj];simp only[rowOf,bh,AS,Pe,List.length_flatMap];rw[ai7 (len:=λq=>(bh l n q.node).length) _ _ (by omega) (λq hq=>?_)]
  .omega
  .have hc:=(PC.1 hq).2;simp only[bt,ab,ir]at hc;grind[Yv,TE]
def qt(l:cT)(at_:Int):Bool:= !((gD l at_).2==0)&&(decide ((gD l at_).1<=120)&&decide ((gD l at_).2<=120))
def aQ(l:cT)(at_:Int):List cG:=if qt l at_ then bh l 11 at_ else []
theorem kG{l:cT}{at_:Int}(h:qt l at_=true):0<=at_/\at_<l.fs.length:=by
 rcases Classical.em (0<=at_/\at_<l.fs.length)with c|c
 .exact c
 .simp[qt,gD,c]at h
theorem e1{l:cT}{at_:Int}(hw:okW l)(h:qt l at_=true):dq l at_ 11/\(bh l 11 at_).length<=120:=by
 obtain⟨h0,h1⟩:=kG h;have Ua:=hw.1.1;obtain⟨i,rfl⟩:∃i:Nat,at_=i:=⟨at_.toNat,by omega⟩;have hc:=al4 l i 11 (by omega);have e:gD l i=(kZ l (i+1)).getD i (0,0):=by simp_all[gD,gr,GC]
 simp only[qt,e,ab,ir]at h;have:(bh l 11 i).length<=120:=by omega
 exact⟨⟨hw,h0,by omega,h1,By _,by omega⟩,this⟩
noncomputable def oG:Ab->Prop×J:=cH mc eI λl at_=>(okW l,.b9 [.sl ((aQ l at_).map bf),.bool (qt l at_)])
theorem mO(l:cT)(at_:Int):oG [.agg (cD l),.int .i64 at_]=(okW l,.b9 [.sl ((aQ l at_).map bf),.bool (qt l at_)]):=aY sR cF _ l at_
theorem iL:aJ Tryz.prog 23 oG:=by
 refine aJ.se (ps:=[(47,KS),(48,KR 11)]) (I:=[]) ⟨aIZ,adR 11,BB⟩ trivial aEn λl at_ h=>?_;have hw:okW l:=h;have Y:=azE l at_;rw[lU hw.1]at Y;dsimp only;by_cases c:qt l at_=true
 .have e2:=azP 11 l at_;have:=e1 hw c;rw[lU this.1]at e2;have e3:aQ l at_=bh l 11 at_:=by rw[aQ,gr c]
  rw[c,e3];simp only[qt,ab,aaa,ir]at c;obtain⟨c1,c2,c3⟩:=c;have HR:decide ((120:Int)<(gD l at_).1)=false:=by simp;omega
  have GD:decide ((120:Int)<(gD l at_).2)=false:=by simp;omega
  exact ao (rO @pK.eq_1 @mc.eq_1 Y e2 c1 HR GD) zz
 .have e3:aQ l at_=[]:=by rw[aQ,ba c]
  have c:qt l at_=false:=by simpa using c
  rw[c,e3];refine ao (cL @pK.eq_1 @mc.eq_1 Y) (JJ (λhn hn hn=>?_));all_goals(simp_all [qt];try omega)
@[reducible] def TD:jJ (List cG):=⟨λm v=>⟨.loc,1,[[.own m v.length 0 v.length]]⟩,λv=>⟨.aV,2,v.map bf⟩⟩
theorem av7:TD.ok:=by
 refine⟨λm v m' v' h=>?_,λm v v' h1 h2=>?_,λm v k h=>?_,λv k=>rfl⟩
 .simp_all
 .simp only[ae.mk.injEq,Bt]at h2;exact map_inj s8 _ _ h2
 .simp[ae.cut,J.cut,J.qA,h]
def _X(x:Nat×Nat×List cG×cG)(a:Ab)(B:List ae):Prop:=a=[.agg (bf x.2.2.2),.ptr x.1 1 0 0]/\TD.is B x.1 x.2.1 x.2.2.1
theorem aCl{B:List ae}{n m m':Nat}{v v':List cG}(h:TD.is B n m v)(h':TD.is B n m' v'):m=m'/\v=v':=by have Y:=abc (h.1.symm.trans h'.1);have e2:=av7.zx _ _ _ _ Y;subst e2;exact⟨rfl,av7.A_ _ _ _ Y (abc (h.2.1.symm.trans h'.2.1))⟩
theorem ayq:∀x y a B,_X x a B->_X y a B->x=y:=by
 rintro⟨n,m,v,c⟩ ⟨n',m',v',c'⟩ a B ⟨h1,h2⟩ ⟨h3,h4⟩
 simp only at h1 h2 h3 h4;rw[h1]at h3;simp only[DO,J.ptr.injEq,J.agg.injEq,Xv]at h3;obtain⟨h5,rfl⟩:=h3;obtain⟨rfl,rfl⟩:=aCl h2 h4;have:=s8 c c' (by simp_all);simp_all
noncomputable def TI:Ab->List ae->o9:=iY _X (λx=>(x.2.2.1.length<=1000,.b9 [])) λx B=>TD.put B x.1 x.2.1 (x.2.2.1++[x.2.2.2])
theorem aq7{B t:List ae}{n m:Nat}{v:List cG}(k:gU B n m)(c:cG):TI [.agg (bf c),.ptr n 1 0 0] (TD.put B n m v++t)=⟨v.length<=1000,.b9 [],TD.put B n m (v++[c])++t⟩:=by have:=fh (f:=λx:Nat×Nat×List cG×cG=>(x.2.2.1.length<=1000,J.b9 [])) (out:=λx B=>TD.put B x.1 x.2.1 (x.2.2.1++[x.2.2.2])) ayq (x:=(n,m,v,c)) (a:=[.agg (bf c),.ptr n 1 0 0]) (B:=TD.put B n m v++t) ⟨rfl,jJ.B_ k⟩;unfold TI;rw[this,jJ.PN k]
theorem ayr{B t:List ae}{n m:Nat}{v:List cG}{c:cG}(k:gU B n m):
 ((TD.put B n m v++t).set m ⟨.aV,2,(v++[c]).map bf⟩).set n ⟨.loc,1,[[.own m (v.length+1) 0 (v.length+1)]]⟩=TD.put B n m (v++[c])++t:=by
 obtain⟨k1,k2,k3⟩:=k;rw[FT _ _ (by simpa[jJ.put]using k2),FT _ _ (by simpa[jJ.put]using k1)];congr 1;unfold jJ.put;refine FX λi=>?_;grind
theorem ays{B t:List ae}{n m:Nat}{v:List cG}{o:ae}(k:gU B n m):((TD.put B n m v++t).set m o)[n]? =some (TD.o m v):=by rw[MG (λh=>k.2.2 h.symm)];exact jJ.ZM k
theorem ayt:ez Tryz.prog 51 TI:=by
 refine ez.I0 (ps:=[]) (I:=[]) trivial trivial aEL (λx a B h=>by rw[h.1];rfl) λx a B h bE=>?_;obtain⟨n,m,v,c⟩:=x;obtain⟨rfl,hi⟩:=h;simp only at hi bE|-;have k:=jJ.SX hi;have e0:(⟨aO 0 [.agg (bf c),.ptr n 1 0 0],B⟩:DS)=(⟨aO 0 [.agg (bf c),.ptr n 1 0 0],TD.put B n m v++[]⟩:DS):=by rw[jJ.XL hi,xz]
 rw[e0];have hcm:=auD c v
 ((have aF:=IT;refine aM.of ?_);(repeat' (first|((with_reducible refine aM.to ?_);(repeat(simp only[↓rP,rT,rU,aB,au,aO,bw,aH,aS,iN,ik,J.bl,bc,qU,jN,J.one,wA,ug,vN,bU,cellsOf,setFrom,J.D1,kM,Nat.reduceEqDiff,Nat.reduceAdd,↓reduceIte,reduceCtorEq,Nat.reduceLeDiff,TO,atB,jJ.ZM k,jJ.qn k,ays k,ayr k,jJ.uz,hcm,kM,aF])))|((with_reducible refine And.intro ?_ ?_); . first|(trivial)|(omega)|grind)|fail)))
 exact jJ.XM (by simp[ae.cut,J.cut,J.qA,k.2.1]) aiB
end Go.Proofs.YtldnkkkooabaeaaGreat

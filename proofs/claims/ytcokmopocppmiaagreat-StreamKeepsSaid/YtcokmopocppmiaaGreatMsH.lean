/- What a Flow keeps at first: the program's. -/
import Derived.Test.YtcokmopocppmiaaGreatMsF
set_option linter.all false
set_option maxRecDepth 20000
namespace Go.Proofs.YtcokmopocppmiaaGreat
open Go.Nk
structure rB where
 n:Nat
 m:Nat
 v:List cW
 l:jw
 at_:Int
 ah:List UInt8
@[reducible] def Sd(n:Nat):DV:= .clo 56 [.ptr n 1 0 0]
def as8(x:rB)(a:List DV)(hp:List ak):Prop:=a=[.agg (b8 x.l),.int .i64 x.at_,.str x.ah,Sd x.n]/\TD.is hp x.n x.m x.v
theorem amC:∀x y a hp,as8 x a hp->as8 y a hp->x=y:=by
 rintro⟨n,m,v,l,i,p⟩ ⟨n',m',v',l',i',p'⟩ a hp ⟨h1,h2⟩ ⟨h3,h4⟩
 simp only at h1 h2 h3 h4;rw[h1]at h3;injection h3 with e1 h3;injection h3 with e2 h3;injection h3 with e3 h3;injection h3 with e4 h3;injection e1 with e1;injection e2 with _ e2;injection e3 with e3;injection e4 with _ e4;injection e4 with e4 _;injection e4 with e4 _ _ _;subst e2 e3 e4;have:=Aj _ _ e1;subst this;obtain⟨rfl,rfl⟩:=awD h2 h4;rfl
def okB(N:Nat)(x:rB):Prop:=okS x.l x.at_ N/\x.v.length+(bH x.l N x.at_).length<=1000/\x.ah.length+N*281474976710656<=1152921504606846976
def Wx(N:Nat)(x:rB):List cW:=x.v++(bH x.l N x.at_).map (iT x.ah)
noncomputable def pQ(N:Nat):List DV->List ak->sj:=m7 as8 (λx=>(okB N x,.cy [])) λx hp=>TD.put hp x.n x.m (Wx N x)
theorem adN(N){hp t}{n m}{v}(k:fw hp n m)(l)(at_)(ah):pQ N [.agg (b8 l),.int .i64 at_,.str ah,Sd n] (TD.put hp n m v++t)=⟨okB N ⟨n,m,v,l,at_,ah⟩,.cy [],TD.put hp n m (Wx N ⟨n,m,v,l,at_,ah⟩)++t⟩:=by have:=jJ (f:=λx:rB=>(okB N x,DV.cy [])) (out:=λx hp=>TD.put hp x.n x.m (Wx N x)) amC (x:=⟨n,m,v,l,at_,ah⟩) (a:=[.agg (b8 l),.int .i64 at_,.str ah,Sd n]) (hp:=TD.put hp n m v++t) ⟨rfl,ij.Oc k⟩;unfold pQ;rw[this,ij.V0 k]
section
variable {hp g t:List ak} {n m:Nat} {v:List cW} {b o o':ak}
theorem afr:(TD.put hp n m v++(b::(g++(o::t))))[hp.length+(g.length+1)]? =some o:=by have:=ij.UA (T:=TD) (hp:=hp) (n:=n) (m:=m) (v:=v) (t:=b::g) (o:=o) (t':=t);simpa using this
theorem afs:(TD.put hp n m v++(b::(g++(o::t)))).set (hp.length+(g.length+1)) o'=TD.put hp n m v++(b::(g++(o'::t))):=by have:=ij.UB (T:=TD) (hp:=hp) (n:=n) (m:=m) (v:=v) (t:=b::g) (o:=o) (o':=o') (t':=t);simpa using this
end
theorem amD(p q)(c):iT p (iT q c)=iT (p++q) c:=by simp[iT]
theorem aaw:∀N,g9 Tryz.prog 55 (pQ N)
 |0=>λa hp h=>by
  exfalso;unfold pQ m7 at h;split at h
  ·obtain⟨⟨_,h1,h2,_⟩,_⟩:=h;omega
  ·exact h.elim
 |N+1=>by
  refine g9.azR (ps:=[(85,BG),(86,wo),(87,rD)]) (hs:=[(56,QV),(55,pQ N)]) (is:=[(121,wm),(122,rG)]) ⟨Mk,IJ,qN,trivial⟩ ⟨as4,aaw N,trivial⟩ ⟨TY,QX,trivial⟩ YC (λx a hp h=>by rw[h.1];rfl) λx a hp h bG=> ?_;obtain⟨n,m,v,l,at_,ah⟩:=x;obtain⟨rfl,hi⟩:=h;obtain⟨⟨hw,h0,h1,h2,h3,h4⟩,h5,h6⟩:=bG;simp only at hi h0 h1 h2 h4 h5 h6 hw;dsimp only;have k:=ij.PV hi;obtain⟨i,rfl⟩:∃i:Nat,at_=i:=⟨at_.toNat,by omega⟩;have hg:l.fs[i]? =some (ad l i):=by
   have hl:i<l.fs.length:=by omega
   simp[ad,hl]
  have RA:WX (ad l i):=hw.1.2 _ (List.mem_of_getElem? hg);have j9:∀q∈(ad l i).eqs.filter (bk i),(bH l N q.node).length<=1000:=λq hq=>Nat.le_trans (afo hq) h4;have hcq:∀q∈(ad l i).eqs,adz q:=λq hq=>NB hw hq;generalize KD:Wx (N+1) ⟨n,m,v,l,i,ah⟩=res;have QT:=KD;simp only[Wx,bH,List.map_append,List.map_map,List.map_flatMap]at QT;have hrl:res.length<=1000:=by rw[<-KD];simp only[Wx,List.length_append,List.length_map];omega
  generalize hf:ad l i=f at hg RA j9 hcq QT;have hkl:i<l.fs.length:=by omega
  have q1:(jL.ofI [(85,BG),(86,wo),(87,rD)] [(56,QV),(55,pQ N)] [(121,wm),(122,rG)]).i 121 [.ref (j0 f)]=(True,(f.eqs.filter gY).map zj):=by have:=QW f;rw[eq_true RA]at this;exact this
  have q2:(jL.ofI [(85,BG),(86,wo),(87,rD)] [(56,QV),(55,pQ N)] [(121,wm),(122,rG)]).i 122 [.ref (b8 l),.ref [.int .i64 i]]=(True,(f.eqs.filter (bk i)).map zj):=by have:=Mj l i;rw[hf,eq_true (show apv (l,(i:Int)) from⟨by simp only;omega,by simp only;omega,by have:=hw.1.1;simp only[bI];omega,hw.1.2⟩)]at this;exact this
  have e0:(⟨aQ 0 [.agg (b8 l),.int .i64 i,.str ah,Sd n],hp⟩:DS)=(⟨aQ 0 [.agg (b8 l),.int .i64 i,.str ah,Sd n],TD.put hp n m v++[]⟩:DS):=by rw[ij.acK hi,List.append_nil]
  rw[e0];refine lJ (A5 @LA.eq_1 @TZ @Z9 (af j0 hg) hkl) (JJ ?_);refine Cd (f.eqs.filter gY) zj (λ_ (a:List cW×List ak)=>TD.put hp n m a.1++(⟨.loc,1,[[Sd n]]⟩::a.2)) (λj r a=>a.1++(r.map (iT ah∘QO)++(f.eqs.filter (bk i)).flatMap λq=>(bH l N q.node).map (iT ah∘iT (aD q++[47])))=res) (v,[])
   [(1,.int .i64 i),(4,.ref (b8 l)),(6,.ref [.str ah]),(7,.ptr hp.length 1 0 0),(9,.undef),(32,.undef)] trivial rfl rfl q1 rfl CT ?_ (λj x r a hx hd hr=>⟨rfl,?_⟩) (λj a ej hr=> ?_)
  ·exact QT
  ·obtain⟨w,g⟩:=a;simp only at hr|-;have Rf:=List.mem_filter.1 (List.mem_of_getElem? hx);have hw2:=hcq x Rf.1;have Ut:=BF hw2;have hil:x.init.length<=17592186044416:=by have:=hw2.1;simp only[bI]at this;omega
   have bw:0<x.names.length:=by have:=Rf.2;simp only[gY,Bool.and_eq_true,decide_eq_true_eq]at this;exact this.2
   have b1:(dI x.names).getD 0 []=[.str (aD x)]:=Bf bw;have ev:=rE x.init;rw[eq_true hil]at ev;simp only[bI]at Ut;have hwl:w.length<=1000:=by rw[<-hr]at hrl;simp only[List.length_append]at hrl;omega
   have ea:∀t,QV [.agg [.str (ah++aD x),.sl (cX x.init)],.ptr n 1 0 0] (TD.put hp n m w++t)=⟨True,.cy [],TD.put hp n m (w++[iT ah (QO x)])++t⟩:=λt=>by have:=amt (t:=t) (v:=w) k (iT ah (QO x));rw[eq_true hwl]at this;exact this
   refine lJ (A9 @aj @Z9 @aqy @wc @ij.ajr @afr @afs @zj.eq_1 (A6 @List.zip_cons_cons.{0,0} @List.zip_nil_right.{0,0} b1 @iI.eq_1 ev ea)) (JJ ?_);exact⟨(w++[iT ah (QO x)],g++[_]),rfl,by rw[<-hr];simp⟩
  ·obtain⟨w,g⟩:=a;simp only[List.map_nil,List.nil_append]at hr|-;refine aq (A2 @QY @Z9) (JJ ?_);refine Cd (f.eqs.filter (bk i)) zj (λ_ (a:List cW×List ak)=>TD.put hp n m a.1++(⟨.loc,1,[[Sd n]]⟩::a.2)) (λj r a=>a.1++(r.flatMap λq=>(bH l N q.node).map (iT ah∘iT (aD q++[47])))=res) (w,g)
    [(4,.ref (b8 l)),(6,.ref [.str ah]),(7,.ptr hp.length 1 0 0)] trivial rfl rfl q2 rfl CT hr (λj x r a hx hd hr=>⟨rfl,?_⟩) (λj a ej hr=> ?_)
   ·obtain⟨w,g⟩:=a;simp only[List.flatMap_cons]at hr|-;have Rf:=List.mem_filter.1 (List.mem_of_getElem? hx);have hw2:=hcq x Rf.1;have Ut:=BF hw2;have hq:=Rf.2;simp only[bk,Bool.and_eq_true,decide_eq_true_eq]at hq;obtain⟨_,bw,n0,n1⟩:=hq;have b1:(dI x.names).getD 0 []=[.str (aD x)]:=Bf bw;simp only[bI]at Ut;have hwl:w.length+(bH l N x.node).length<=1000:=by rw[<-hr]at hrl;simp only[List.length_append,List.length_map]at hrl;omega
    have ea:∀t,pQ N [.agg (b8 l),.int .i64 x.node,.str (ah++(aD x++[47])),Sd n] (TD.put hp n m w++t)=⟨True,.cy [],TD.put hp n m (w++(bH l N x.node).map (iT ah∘iT (aD x++[47])))++t⟩:=λt=>by have:=adN N (t:=t) (v:=w) k l x.node (ah++(aD x++[47]));rw[eq_true (show okB N ⟨n,m,w,l,x.node,ah++(aD x++[47])⟩ from⟨⟨hw,n0,by simp only;omega,by simp only;omega,by omega,j9 x (List.mem_of_getElem? hx)⟩,hwl,by simp only[List.length_append,List.length_cons,List.length_nil];omega⟩)]at this;rw[this];have e9:(iT ah∘iT (aD x++[47]))=iT (ah++(aD x++[47])):=funext λc=>amD ah (aD x++[47]) c;rw[e9];rfl
    refine lJ (A9 @aj @aqy @wc @ij.ajr @afr @afs @zj.eq_1 @List.zip_cons_cons.{0,0} (A4 @List.zip_nil_right.{0,0} b1 @iI.eq_1 ea)) (JJ ?_);exact⟨(w++(bH l N x.node).map (iT ah∘iT (aD x++[47])),g++[_]),rfl,by rw[<-hr];simp⟩
   ·obtain⟨w,g⟩:=a;simp only[List.flatMap_nil,List.append_nil]at hr;subst hr;refine lJ trivial (JJ ?_);exact ij.aeT (by simp[ak.cut,DV.cut,DV.rR,k.2.1]) aeS
theorem amE(c:cW):iT [] c=c:=rfl
theorem yo:aF Tryz.prog 30 lL:=by
 refine aF.oU (ps:=[(54,IH)]) (hs:=[(55,pQ 11)]) ⟨Ws,trivial⟩ ⟨aaw 11,trivial⟩ YA λl at_ h=> ?_;have hw:okW l:=h;have e1:=QU l at_;rw[eq_true hw.1]at e1;dsimp only;by_cases c:rH l at_=true
 ·have hS:=ad0 hw c;have e3:b7 l at_=bH l 11 at_:=by rw[b7,if_pos c]
  have eb:pQ 11 [.agg (b8 l),.int .i64 at_,.str [],Sd 0] [⟨.loc,1,[[.own 1 0 0 0]]⟩,⟨.aN,2,[]⟩]=⟨True,.cy [],[⟨.loc,1,[[.own 1 (bH l 11 at_).length 0 (bH l 11 at_).length]]⟩,⟨.aN,2,(bH l 11 at_).map aT⟩]⟩:=by
   have:=jJ (f:=λx:rB=>(okB 11 x,DV.cy [])) (out:=λx hp=>TD.put hp x.n x.m (Wx 11 x)) amC (x:=⟨0,1,[],l,at_,[]⟩) (a:=[.agg (b8 l),.int .i64 at_,.str [],Sd 0]) (hp:=[⟨.loc,1,[[.own 1 0 0 0]]⟩,⟨.aN,2,[]⟩]) ⟨rfl,rfl,rfl,Nat.zero_ne_one⟩;unfold pQ;rw[this,eq_true (show okB 11 ⟨0,1,[],l,at_,[]⟩ from⟨hS.1,by simp only[List.length_nil];omega,by simp⟩)];have e9:Wx 11 ⟨0,1,[],l,at_,[]⟩=bH l 11 at_:=by have:iT []=id:=funext amE;simp only[Wx,this,List.map_id,List.nil_append]
   rw[e9];rfl
  rw[c,e3];simp only[rH,Bool.and_eq_true,Bool.not_eq_true',decide_eq_true_eq]at c;obtain⟨c1,c2,c3⟩:=c;have c2':decide ((120:Int)<(gA l at_).1)=false:=by simp;omega
  have c3':decide ((120:Int)<(gA l at_).2)=false:=by simp;omega
  generalize bH l 11 at_=S at eb;refine aq (A6 @Bg.eq_1 @jz.eq_1 e1 c1 c2' c3') (JJ ?_);refine qF ?_;exact aq (A2 @ze eb) zz
 ·have e3:b7 l at_=[]:=by rw[b7,if_neg c]
  have c:rH l at_=false:=by simpa using c
  rw[c,e3];refine aq (A3 @Bg.eq_1 @jz.eq_1 e1) (JJ (λhn hn hn=> ?_));all_goals(simp_all [rH];try omega)
end Go.Proofs.YtcokmopocppmiaaGreat

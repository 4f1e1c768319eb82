/- What a Flow keeps at first: the document's. -/
import Derived.Test.YtcokmopocppmiaaGreatMsD
set_option linter.all false
set_option maxRecDepth 20000
namespace Go.Proofs.YtcokmopocppmiaaGreat
open Go.Nk
def aD(q:Pl):List UInt8:=q.names.getD 0 []
def QO(q:Pl):cW:=⟨aD q,q.init⟩
def iT(p:List UInt8)(c:cW):cW:=⟨p++c.path,c.dL⟩
def bH(l:jw):Nat->Int->List cW
 |0,_=>[]
 |n+1,at_=>((ad l at_).eqs.filter gY).map QO++((ad l at_).eqs.filter (bk at_)).flatMap λq=>(bH l n q.node).map (iT (aD q++[47]))
def adz(q:Pl):Prop:=8*q.init.length<=bI/\∀s∈q.names,s.length<=bI
def okW(l:jw):Prop:=okC l/\∀f∈l.fs,∀q∈f.eqs,adz q
theorem BF{q}(h:adz q):(aD q).length<=bI:=by
 unfold aD;cases hn:q.names with
 |nil=>simp
 |cons a r=>exact h.2 a (by rw[hn];simp)
theorem NB{l}(h:okW l){at_}{q}(hq:q∈(ad l at_).eqs):adz q:=by
 unfold ad at hq;rcases Nat.lt_or_ge at_.toNat l.fs.length with h1|h1
 ·rw[List.getD_eq_getElem?_getD,List.getElem?_eq_getElem h1]at hq;exact h.2 _ (List.getElem_mem h1) _ hq
 ·rw[List.getD_eq_getElem?_getD,List.getElem?_eq_none h1]at hq;simp[default]at hq
theorem QR{l}(h:okW l):∀(n:Nat) (at_:Int),∀c∈bH l n at_,c.path.length<=n*281474976710656/\8*c.dL.length<=bI
 |0,_,c,hc=>by simp[bH]at hc
 |n+1,at_,c,hc=>by
  simp only[bH,List.mem_append,List.mem_map,List.mem_flatMap]at hc;rcases hc with⟨q,hq,rfl⟩|⟨q,hq,c',jg,rfl⟩
  ·have hw:=NB h (List.mem_filter.1 hq).1;have:=BF hw;simp only[bI,QO]at this|-;exact⟨by omega,hw.1⟩
  ·have hw:=NB h (List.mem_filter.1 hq).1;have h1:=BF hw;have h2:=QR h n q.node c' jg;simp only[bI]at h1;simp only[iT,List.length_append,List.length_cons,List.length_nil];exact⟨by omega,h2.2⟩
theorem DY:∀{l:List Nat} {x:Nat},x∈l->x<=l.sum
 |a::l,x,h=>by
  rcases List.mem_cons.1 h with rfl|h
  ·simp
  ·have:=DY h;simp;omega
theorem afo{l}{n}{at_}{q:Pl}(hq:q∈(ad l at_).eqs.filter (bk at_)):(bH l n q.node).length<=(bH l (n+1) at_).length:=by
 have h1:((bH l n q.node).map (iT (aD q++[47]))).length<=(((ad l at_).eqs.filter (bk at_)).flatMap λq=>(bH l n q.node).map (iT (aD q++[47]))).length:=by rw[List.length_flatMap];exact DY (List.mem_map.2 ⟨q,hq,rfl⟩)
 simp only[bH,List.length_append]at h1|-;rw[List.length_map]at h1;omega
def okS(l:jw)(at_:Int)(n:Nat):Prop:=okW l/\0<=at_/\at_<n/\at_<l.fs.length/\n<=11/\(bH l n at_).length<=1000
noncomputable def IG(n:Nat):List DV->Prop×DV:=b5 jz eI λl at_=>(okS l at_ n,.sl ((bH l n at_).map aT))
def QS(n)(l)(at_):=show IG n [.agg (b8 l),.int .i64 at_]=_ from aO o9 b6 _ l at_
theorem ahQ(x:Pl)(o:List cW):o.map aT++[[.str (aD x),.sl (cX x.init)]]=(o++[QO x]).map aT:=by simp[QO]
theorem ahR(p)(c:cW)(o:List cW):o.map aT++[[.str (p++c.path),.sl (cX c.dL)]]=(o++[iT p c]).map aT:=by simp[iT]
theorem apt(x:cW)(o:List cW):o.map aT++[[.str x.path,.sl (cX x.dL)]]=(o++[x]).map aT:=by simp
theorem aar:∀n,aF Tryz.prog 35 (IG n)
 |0=>λa h=>by
  exfalso;unfold IG b5 at h;split at h
  ·obtain⟨_,h1,h2,_⟩:=h;omega
  ·exact h.elim
 |n+1=>by
  refine aF.oU (ps:=[(62,NC),(35,IG n)]) (hs:=[]) ⟨uN,aar n,trivial⟩ trivial Fi λl at_ h=> ?_;obtain⟨hw,h0,h1,h2,h3,h4⟩:=h;obtain⟨m,rfl⟩:∃m:Nat,at_=m:=⟨at_.toNat,by omega⟩;have hg:l.fs[m]? =some (ad l m):=by
   have hl:m<l.fs.length:=by omega
   simp[ad,hl]
  have RA:(ad l m).eqs.length<=bI:=hw.1.2 _ (List.mem_of_getElem? hg);simp only[bI]at RA;have j9:∀q∈(ad l m).eqs.filter (bk m),(bH l n q.node).length<=1000:=λq hq=>Nat.le_trans (afo hq) h4;have hcq:∀q∈(ad l m).eqs,adz q:=λq hq=>NB hw hq;generalize KD:bH l (n+1) m=res at h4|-;have QT:=KD;simp only[bH]at QT;generalize hf:ad l m=f at hg RA j9 hcq QT;have hkl:m<l.fs.length:=by omega
  dsimp only;refine aq (A4 @uo.eq_1 @jz.eq_1 (af j0 hg) hkl) (JJ ?_);refine ai f.eqs (λj (out:List cW)=>⟨[(1,.int .i64 m),(2,.ref (b8 l)),(5,.own 0 out.length 0 out.length),(6,.ptr 1 1 0 0),(7,.int .i64 j)],[⟨.aN,2,out.map aT⟩,⟨.loc,5,[j0 f]⟩]⟩)
   (λj r out=>out++((r.filter gY).map QO++(f.eqs.filter (bk m)).flatMap λq=>(bH l n q.node).map (iT (aD q++[47])))=res) [] (Nat.zero_le _) CT QT (λj x r out d hx hd hr=> ?_) (λj out ej hr=> ?_)
  ·have e1:=Ge x m;simp only[fJ]at e1;have hle:out.length<=1000:=by rw[<-hr]at h4;simp only[List.length_append]at h4;omega
   by_cases cf:gY x=true
   ·rw[cf]at e1;rw[List.filter_cons,if_pos cf,List.map_cons]at hr;have bw:0<x.names.length:=by simp only[gY,Bool.and_eq_true,decide_eq_true_eq]at cf;exact cf.2
    have b1:(dI x.names).getD 0 []=[.str (aD x)]:=Bf bw;refine aq (A5 @aj d (af fJ hx) e1 b1) (JJ ?_);exact⟨out++[QO x],(CF @ahQ),by rw[<-hr];simp⟩
   ·have cf:gY x=false:=by simpa using cf
    rw[cf]at e1;rw[List.filter_cons,if_neg (by simp[cf])]at hr;refine aq (A3 d (af fJ hx) e1) (JJ ?_);exact⟨out,CT,hr⟩
  ·simp only[List.filter_nil,List.map_nil,List.nil_append]at hr;refine aq @ej (JJ ?_);refine ai f.eqs (λj (out:List cW)=>⟨[(1,.int .i64 m),(2,.ref (b8 l)),(5,.own 0 out.length 0 out.length),(6,.ptr 1 1 0 0),(10,.int .i64 j)],[⟨.aN,2,out.map aT⟩,⟨.loc,5,[j0 f]⟩]⟩)
    (λj r out=>out++((r.filter (bk m)).flatMap λq=>(bH l n q.node).map (iT (aD q++[47])))=res) out (Nat.zero_le _) CT hr (λj x r out d hx hd hr=> ?_) (λj out ej hr=> ?_)
   ·have e1:=Ge x m;simp only[fJ]at e1;by_cases cc:bk m x=true
    ·rw[cc]at e1;rw[List.filter_cons,if_pos cc,List.flatMap_cons]at hr;have Rf:x∈f.eqs:=List.mem_of_getElem? hx;have hq:=cc;simp only[bk,Bool.and_eq_true,decide_eq_true_eq]at hq;obtain⟨_,bw,n0,n1⟩:=hq;have b1:(dI x.names).getD 0 []=[.str (aD x)]:=Bf bw;have e2:=QS n l x.node;rw[eq_true (show okS l x.node n from⟨hw,n0,by omega,by omega,by omega,j9 x (List.mem_filter.2 ⟨Rf,cc⟩)⟩)]at e2;have Ut:=BF (hcq x Rf);have RH:=QR hw n x.node;have hl3:(bH l n x.node).length<=1000:=j9 x (List.mem_filter.2 ⟨Rf,cc⟩);simp only[bI]at Ut;generalize bH l n x.node=sub at e2 hr RH hl3;refine aq (A4 d (af fJ hx) e1 e2) (JJ ?_);refine ai sub (λi (out:List cW)=>⟨[(1,.int .i64 m),(2,.ref (b8 l)),(5,.own 0 out.length 0 out.length),(6,.ptr 1 1 0 0),(10,.int .i64 j),(13,.sl (sub.map aT)),(14,.int .i64 i)],[⟨.aN,2,out.map aT⟩,⟨.loc,5,[j0 f]⟩]⟩)
      (λi r3 out=>out++(r3.map (iT (aD x++[47]))++((r.filter (bk m)).flatMap λq=>(bH l n q.node).map (iT (aD q++[47]))))=res) out (Nat.zero_le _) CT hr (λi c r3 out d3 hc hd3 hr3=> ?_) (λi out ei hr3=> ?_)
     ·have hle:out.length<=1000:=by rw[<-hr3]at h4;simp only[List.length_append]at h4;omega
      have hcl:=(RH c (List.mem_of_getElem? hc)).1;have az8:n<=10:=by omega
      have aEO:c.path.length<=10*281474976710656:=Nat.le_trans hcl (Nat.mul_le_mul_right _ az8);rw[List.map_cons]at hr3;refine aq (A7 @aj d3 d (af fJ hx) (af aT hc) b1 @iI.eq_1) (JJ ?_);exact⟨out++[iT (aD x++[47]) c],(CF @ahR),by rw[<-hr3];simp⟩
     ·rw[List.map_nil,List.nil_append]at hr3;refine aq @ei (JJ ?_);exact⟨out,CT,hr3⟩
    ·have cc:bk m x=false:=by simpa using cc
     rw[cc]at e1;rw[List.filter_cons,if_neg (by simp[cc])]at hr;refine aq (A3 d (af fJ hx) e1) (JJ ?_);exact⟨out,CT,hr⟩
   ·simp only[List.filter_nil,List.flatMap_nil,List.append_nil]at hr;subst hr;exact aq (A2 @ze ej) zz
theorem QN(l):∀(K j:Nat),j<K->(jT l K).getD j (0,0)=(jT l (j+1)).getD j (0,0)
 |0,j,h=>by omega
 |K+1,j,h=>by
  rcases Nat.lt_or_ge j K with h1|h1
  ·rw[<-QN l K j h1];simp only[jT];rw[List.getD_eq_getElem?_getD,List.getElem?_append_left (by rw[jP];exact h1),<-List.getD_eq_getElem?_getD]
  ·have:j=K:=by omega
   subst this;rfl
theorem K6(l)(i):(jT l (i+1)).getD i (0,0)=rowOf (jT l i) i (ad l i):=by simp only[jT];rw[List.getD_eq_getElem?_getD,List.getElem?_append_right (by rw[jP];exact Nat.le_refl _),jP];simp
theorem afp{T}{len}:∀(qs:List Pl) (a:Int),0<=a->(∀q∈qs,(U9 T q).1=min (len q:Int) 1000)->min (a+Gc T qs) 1000=min (a+((qs.map len).sum:Nat)) 1000
 |[],a,_,_=>by simp[Gc]
 |q::qs,a,h0,h=>by have h1:=h q (by simp);have h2:=afp qs (a+(U9 T q).1) (by omega) λq hq=>h q (by simp[hq]);simp only[Gc,List.map_cons,List.sum_cons];omega
theorem ahS(l):∀(i n:Nat),i<n->((jT l (i+1)).getD i (0,0)).1=min ((bH l n i).length:Int) 1000:=by
 intro i;induction i using Nat.strongRecOn with
 |_ i ih=>
  intro n hn;obtain⟨n,rfl⟩:∃k,n=k+1:=⟨n-1,by omega⟩;rw[K6];simp only[rowOf,bH,List.length_append,List.length_map,List.length_flatMap];rw[afp (len:=λq=>(bH l n q.node).length) _ _ (by omega) (λq hq=> ?_)]
  ·first|rfl|(congr 1;done)|(congr 1;simp only[List.length_map];try omega)
  ·have hc:=(List.mem_filter.1 hq).2;simp only[bk,Bool.and_eq_true,decide_eq_true_eq]at hc;obtain⟨_,_,h0,h1⟩:=hc;unfold U9;rw[QN l i q.node.toNat (by omega),ih q.node.toNat (by omega) n (by omega)];rw[show((q.node.toNat:Nat):Int)=q.node by omega]
def rH(l:jw)(at_:Int):Bool:= !((gA l at_).2==0)&&(decide ((gA l at_).1<=120)&&decide ((gA l at_).2<=120))
def b7(l:jw)(at_:Int):List cW:=if rH l at_ then bH l 11 at_ else []
theorem mI{l:jw}{at_}(h:rH l at_=true):0<=at_/\at_<l.fs.length:=by
 rcases Classical.em (0<=at_/\at_<l.fs.length)with c|c
 ·exact c
 ·simp[rH,gA,c]at h
theorem ad0{l}{at_}(hw:okW l)(h:rH l at_=true):okS l at_ 11/\(bH l 11 at_).length<=120:=by
 obtain⟨h0,h1⟩:=mI h;have Rc:=hw.1.1;obtain⟨i,rfl⟩:∃i:Nat,at_=i:=⟨at_.toNat,by omega⟩;have hc:=ahS l i 11 (by omega);have e:gA l i=(jT l (i+1)).getD i (0,0):=by simp only[gA,if_pos (And.intro h0 h1),Int.toNat_natCast]
 simp only[rH,e,Bool.and_eq_true,decide_eq_true_eq]at h;have:(bH l 11 i).length<=120:=by omega
 exact⟨⟨hw,h0,by omega,h1,Nat.le_refl _,by omega⟩,this⟩
noncomputable def lL:List DV->Prop×DV:=b5 jz eI λl at_=>(okW l,.cy [.sl ((b7 l at_).map aT),.bool (rH l at_)])
def jV(l)(at_):=show lL [.agg (b8 l),.int .i64 at_]=_ from aO o9 b6 _ l at_
theorem gP:aF Tryz.prog 19 lL:=by
 refine aF.oU (ps:=[(34,IH),(35,IG 11)]) (hs:=[]) ⟨Dg,aar 11,trivial⟩ trivial Fg λl at_ h=> ?_;have hw:okW l:=h;have e1:=QU l at_;rw[eq_true hw.1]at e1;dsimp only;by_cases c:rH l at_=true
 ·have e2:=QS 11 l at_;have:=ad0 hw c;rw[eq_true this.1]at e2;have e3:b7 l at_=bH l 11 at_:=by rw[b7,if_pos c]
  rw[c,e3];simp only[rH,Bool.and_eq_true,Bool.not_eq_true',decide_eq_true_eq]at c;obtain⟨c1,c2,c3⟩:=c;have c2':decide ((120:Int)<(gA l at_).1)=false:=by simp;omega
  have c3':decide ((120:Int)<(gA l at_).2)=false:=by simp;omega
  exact aq (A7 @n9.eq_1 @jz.eq_1 e1 e2 c1 c2' c3') zz
 ·have e3:b7 l at_=[]:=by rw[b7,if_neg c]
  have c:rH l at_=false:=by simpa using c
  rw[c,e3];refine aq (A3 @n9.eq_1 @jz.eq_1 e1) (JJ (λhn hn hn=> ?_));all_goals(simp_all [rH];try omega)
@[reducible] def TD:ij (List cW):=⟨λm v=>⟨.loc,1,[[.own m v.length 0 v.length]]⟩,λv=>⟨.aN,2,v.map aT⟩⟩
theorem aqE:TD.ok:=by
 refine⟨λm v m' v' h=> ?_,λm v v' h1 h2=> ?_,λm v k h=> ?_,λv k=>rfl⟩
 ·simp only[ak.mk.injEq,List.cons.injEq,DV.own.injEq,and_true,true_and]at h;exact h.1
 ·simp only[ak.mk.injEq,true_and]at h2;exact map_inj qR _ _ h2
 ·simp[ak.cut,DV.cut,DV.rR,h]
def as0(x:Nat×Nat×List cW×cW)(a:List DV)(hp:List ak):Prop:=a=[.agg (aT x.2.2.2),.ptr x.1 1 0 0]/\TD.is hp x.1 x.2.1 x.2.2.1
theorem awD{hp}{n m m'}{v v'}(h:TD.is hp n m v)(h':TD.is hp n m' v'):m=m'/\v=v':=by have e1:=Option.some.inj (h.1.symm.trans h'.1);have e2:=aqE.anG _ _ _ _ e1;subst e2;exact⟨rfl,aqE.anH _ _ _ e1 (Option.some.inj (h.2.1.symm.trans h'.2.1))⟩
theorem as1:∀x y a hp,as0 x a hp->as0 y a hp->x=y:=by
 rintro⟨n,m,v,c⟩ ⟨n',m',v',c'⟩ a hp ⟨h1,h2⟩ ⟨h3,h4⟩
 simp only at h1 h2 h3 h4;rw[h1]at h3;simp only[List.cons.injEq,DV.ptr.injEq,DV.agg.injEq,and_true]at h3;obtain⟨h5,rfl⟩:=h3;obtain⟨rfl,rfl⟩:=awD h2 h4;have:=qR c c' (by simpa[aT]using h5);subst this;rfl
noncomputable def QV:List DV->List ak->sj:=m7 as0 (λx=>(x.2.2.1.length<=1000,.cy [])) λx hp=>TD.put hp x.1 x.2.1 (x.2.2.1++[x.2.2.2])
theorem amt{hp t}{n m}{v:List cW}(k:fw hp n m)(c):QV [.agg (aT c),.ptr n 1 0 0] (TD.put hp n m v++t)=⟨v.length<=1000,.cy [],TD.put hp n m (v++[c])++t⟩:=by have:=jJ (f:=λx:Nat×Nat×List cW×cW=>(x.2.2.1.length<=1000,DV.cy [])) (out:=λx hp=>TD.put hp x.1 x.2.1 (x.2.2.1++[x.2.2.2])) as1 (x:=(n,m,v,c)) (a:=[.agg (aT c),.ptr n 1 0 0]) (hp:=TD.put hp n m v++t) ⟨rfl,ij.Oc k⟩;unfold QV;rw[this,ij.V0 k]
theorem as2{hp t}{n m}{v:List cW}{c}(k:fw hp n m):
 ((TD.put hp n m v++t).set m ⟨.aN,2,(v++[c]).map aT⟩).set n ⟨.loc,1,[[.own m (v.length+1) 0 (v.length+1)]]⟩=TD.put hp n m (v++[c])++t:=by
 obtain⟨k1,k2,k3⟩:=k;rw[List.set_append_left _ _ (by simpa[ij.put]using k2),List.set_append_left _ _ (by simpa[ij.put]using k1)];congr 1;unfold ij.put;refine List.ext_getElem? λi=> ?_;by_cases h1:n=i<;>by_cases h2:m=i<;>simp_all []
theorem as3{hp t}{n m}{v}{o}(k:fw hp n m):((TD.put hp n m v++t).set m o)[n]? =some (TD.o m v):=by rw[List.getElem?_set_ne (λh=>k.2.2 h.symm)];exact ij.ad8 k
theorem as4:g9 Tryz.prog 56 QV:=by
 refine g9.mkG (ps:=[]) (hs:=[]) trivial trivial RP (λx a hp h=>by rw[h.1];rfl) λx a hp h bG=> ?_;obtain⟨n,m,v,c⟩:=x;obtain⟨rfl,hi⟩:=h;simp only at hi bG|-;have k:=ij.PV hi;have e0:(⟨aQ 0 [.agg (aT c),.ptr n 1 0 0],hp⟩:DS)=(⟨aQ 0 [.agg (aT c),.ptr n 1 0 0],TD.put hp n m v++[]⟩:DS):=by rw[ij.acK hi,List.append_nil]
 rw[e0];have hcm:=apt c v
 ((have az:=Bool.and_self;refine aL.of ?_);(repeat' (first|((with_reducible refine aL.to ?_);(repeat(simp only[↓rP,rT,rU,aC,aw,aQ,bA,aI,aW,iK,hH,DV.aY,bf,sN,lY,DV.one,xJ,tJ,wL,bU,cellsOf,setFrom,DV.isU,kT,Nat.reduceEqDiff,Nat.reduceAdd,↓reduceIte,reduceCtorEq,Nat.reduceLeDiff,forall_const,Dz,ij.ad8 k,ij.ajq k,as3 k,as2 k,ij.vi,hcm,kT,az])))|((with_reducible refine And.intro ?_ ?_); . first|(trivial)|(omega)|((simp;done)))|fail)))
 exact ij.aeT (by simp[ak.cut,DV.cut,DV.rR,k.2.1]) aeS
end Go.Proofs.YtcokmopocppmiaaGreat

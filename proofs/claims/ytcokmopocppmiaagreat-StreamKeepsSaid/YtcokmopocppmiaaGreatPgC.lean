/- Programs: what leads where: the walk (15). -/
import Derived.Test.YtcokmopocppmiaaGreatPgB
set_option linter.all false
set_option maxRecDepth 20000
namespace Go.Proofs.YtcokmopocppmiaaGreat
noncomputable section
open Go.Nk
@[reducible] def lV(f:Lp):List DV:=[.int .i64 f.1,.int .i64 f.2.1,.int .i64 f.2.2]
def vr:List DV->Prop×DV:=eR eI eI eI λa b c=>(True,.agg (lV (flt a b c)))
def gL(a)(b)(c):=show vr [.int .i64 a,.int .i64 b,.int .i64 c]=_ from bz b6 b6 b6 _ a b c
theorem fi:aF Tryz.prog 95 vr:=by refine aF.uR (ps:=[]) (hs:=[]) trivial trivial EJ λa b c _=> ?_;refine aq @ua.eq_1 (JJ ?_);all_goals rfl
def X7:List DV->Prop×DV:=b5 sM eS λn s=>(dH n=true,.bool (Vo n s))
def O0(n)(s):=show X7 [.agg (ef n),.str s]=_ from aO px ik _ n s
theorem qk:aF Tryz.prog 196 X7:=by
 refine aF.oU (ps:=[(128,vt)]) (hs:=[]) ⟨fI,trivial⟩ trivial MB λn s h=> ?_;try dsimp only at h
 have e1:=nR n s;rw[eq_true h]at e1;refine aq (A3 @zA.eq_1 @sM.eq_1 e1) (JJ ?_);all_goals rfl
theorem an5{l}(h:ub l=true):AJ l:=by simp only[ub,Bool.and_eq_true,decide_eq_true_eq,List.all_eq_true]at h;obtain⟨h1,h2⟩:=h;refine⟨by omega,λx hx=> ?_⟩;have:=h2 x hx;simp only[wI,Bool.and_eq_true,decide_eq_true_eq]at this;have:=this.1;omega
theorem hU{α} [Inhabited α]{l:List α}{i}(h:i<l.length):l[i]? =some (l.getD i default):=by rw[List.getD_eq_getElem?_getD,List.getElem?_eq_getElem h];rfl
theorem tR{p:cY}(h:bx p=true):AJ p.en:=by simp only[bx,Bool.and_eq_true]at h;exact an5 h.1.1
def Vp:List DV->Prop×DV:=b5 bj eS λp s=>(AJ p.en,.bool (my p.en s))
def SM(p:cY)(s):=show Vp [.agg (bT p),.str s]=_ from aO dp ik _ p s
theorem vC:aF Tryz.prog 197 Vp:=by
 refine aF.oU (ps:=[(97,xC)]) (hs:=[]) ⟨cG,trivial⟩ trivial JW λp s h=> ?_;try dsimp only at h
 obtain⟨en,ns⟩:=p;have e1:=nh en s;rw[eq_true h]at e1;refine aq (A3 @xG.eq_1 @bj.eq_1 e1) (JJ ?_);all_goals rfl
def inP(p:cY)(at_:Int):Prop:=bx p=true/\0<=at_/\at_<p.nodes.length
theorem Ew{p:cY}{at_}(h:inP p at_):∃k:Nat,at_=k/\k<p.nodes.length/\(p.nodes.map ef).getD k []=ef (nodeAt p k)/\dH (nodeAt p k)=true/\p.nodes.length<=10:=by obtain⟨h1,h2,h3⟩:=h;refine⟨at_.toNat,by omega,by omega,af ef (hU (by omega)),?_,(eO h1).1⟩;exact(eO h1).2 _ (by unfold nodeAt;exact List.mem_of_getElem? (hU (by omega)))
def Nc:List DV->Prop×DV:=eR bj eI gC λp at_ e=>(inP p at_/\e.arms.length<=1000000,.bool (oy p at_.toNat e))
def abV(p)(at_:Int)(e:Ex):=show Nc [.agg (bT p),.int .i64 at_,.agg (cA e)]=_ from bz dp b6 fv _ p at_ e
theorem EK:aF Tryz.prog 209 Nc:=by
 refine aF.uR (ps:=[(196,X7),(197,Vp),(150,G2)]) (hs:=[]) ⟨qk,vC,nM,trivial⟩ trivial Hn λp at_ e h=> ?_;try dsimp only at h
 obtain⟨h1,h2⟩:=h;obtain⟨k,rfl,hk,hn,hs,Rc⟩:=Ew h1;have hE:=tR h1.1;have hP:=h1.1;obtain⟨en,ns⟩:=p;dsimp only at hk hn hE Rc;have e1:=O0 (nodeAt ⟨en,ns⟩ k) e.name;have e2:=λs=>SM ⟨en,ns⟩ s;have e3:=Eo ⟨en,ns⟩ e.name;rw[eq_true hs]at e1;rw[eq_true hP]at e3;simp only[eq_true hE]at e2;simp only[Int.toNat_natCast];have si:(k:Int)<ns.length:=by omega
 generalize hnn:nodeAt ⟨en,ns⟩ k=n at*;have hm:oy ⟨en,ns⟩ k e=if(e.kind=3\/e.kind=11\/e.kind=12)/\Vo n e.name=false then false else if !e.arms.all (my en)then false
  else if e.kind=4 then my en e.name else if e.kind=13 then decide (0<=iR ⟨en,ns⟩ e.name)&&decide (iR ⟨en,ns⟩ e.name<k)else e.kind !=17:=by
  unfold oy;simp only[hnn]
 rw[hm];by_cases k3:e.kind=3\/e.kind=11\/e.kind=12
 ·by_cases hv:Vo n e.name=false
  ·rw[if_pos ⟨k3,hv⟩];rcases k3 with k3|k3|k3;all_goals(exact aq (A9 @lu.eq_1 @gC.eq_1 @bj.eq_1 (ag e) e1 hn si k3 hv) zz)
  ·have hv:Vo n e.name=true:=by simpa using hv
   rw[if_neg (λhh=>by rw[hv]at hh;cases hh.2),if_neg (show¬e.kind=4 by omega),if_neg (show¬e.kind=13 by omega),show(e.kind !=17)=true by simp;omega];rcases k3 with k3|k3|k3;all_goals(refine aq (A9 @lu.eq_1 @gC.eq_1 @bj.eq_1 (ag e) e1 hn si k3 hv) (JJ ?_))
   all_goals refine ai e.arms (λi (_:Unit)=>⟨[(1,.int .i64 k),(3,.ref (bT ⟨en,ns⟩)),(5,.ref (cA e)),(8,.int .i64 i)],[⟨.loc,5,[ef n]⟩]⟩) (λi r _=>r.all (my en)=e.arms.all (my en)) () (Nat.zero_le _) (CF (A2 (ag e) k3)) rfl (λi x r _ d hx hd hr=> ?_) (λi _ e5 hr=> ?_)
   all_goals first
    |rw[List.all_cons]at hr
     have re:=fk hx;have e4:=e2 x;refine aq (A6 @aj (ag e) d re e4 k3) (A2 ?_ (JJ ?_))<;>intros;all_goals first
      |exact⟨(),CT,by rw[<-hr];simp_all⟩
      |(rw[<-hr];simp_all;done)
    |rw[List.all_nil]at hr
     rw[<-hr];exact aq (A4 @aj (ag e) e5 k3) zz;all_goals first
      |rfl
 rw[if_neg (λhh=>k3 hh.1)];have q3:¬e.kind=3:=λhh=>k3 (.inl hh);have q11:¬e.kind=11:=λhh=>k3 (.inr (.inl hh));have q12:¬e.kind=12:=λhh=>k3 (.inr (.inr hh));refine aq (A6 @lu.eq_1 @gC.eq_1 @bj.eq_1 (ag e) hn si) (JJ (λhn hn hn=> ?_));refine ai e.arms (λi (_:Unit)=>⟨[(1,.int .i64 k),(3,.ref (bT ⟨en,ns⟩)),(5,.ref (cA e)),(8,.int .i64 i)],[⟨.loc,5,[ef n]⟩]⟩) (λi r _=>r.all (my en)=e.arms.all (my en)) () (Nat.zero_le _) (CF (ag e)) rfl (λi x r _ d hx hd hr=> ?_) (λi _ e5 hr=> ?_)
 ·rw[List.all_cons]at hr;have re:=fk hx;have e4:=e2 x;refine aq (A5 @aj (ag e) d re e4) (A2 ?_ (JJ ?_))<;>intros;all_goals first
   |exact⟨(),CT,by rw[<-hr];simp_all⟩
   |(rw[<-hr];simp_all;done)
 ·rw[List.all_nil]at hr;rw[<-hr];have e4:=e2 e.name;refine aq (A5 @aj (ag e) e5 e3 e4) (A4 ?_ ?_ ?_ (JJ ?_))<;>intros;all_goals first
   |(simp_all;done)
   |grind
def CL(s:List UInt8)(l:List (List UInt8)):Nat:=(l.filter (·==s)).length
theorem agp(s x)(l):CL s (x::l)=(if x=s then 1 else 0)+CL s l:=by
 by_cases h:x=s
 ·subst h;simp[CL];omega
 ·simp[CL,h]
theorem akb(s)(l m):CL s (l++m)=CL s l+CL s m:=by simp[CL]
theorem an6(s)(l:List (List UInt8)):CL s l<=l.length:=by simp[CL,List.length_filter_le]
theorem akc{n:kZ}(h:dH n=true)(k):((n.eqs.take k).flatMap (·.names)).length<=600:=by
 obtain⟨_,_,_,h4,_,h6⟩:=cO h;have:∀l:List wq,(∀x∈l,x.names.length<=20)->(l.flatMap (·.names)).length<=20*l.length:=by
  intro l hl;induction l with
  |nil=>simp
  |cons x l ih=>
   have:=ih λy hy=>hl y (List.mem_cons_of_mem _ hy);have:=hl x (List.mem_cons_self ..);simp only[List.flatMap_cons,List.length_append,List.length_cons];omega
 have:=this (n.eqs.take k) λx hx=>(h6 x (List.mem_of_mem_take hx)).1;have:(n.eqs.take k).length<=30:=by simp;omega
 omega
theorem aen{α}{l:List α}{k i}{x:α}(h:(l.take k)[i]? =some x):l[i]? =some x/\i<k:=by
 have h1:=(List.getElem?_eq_some_iff.1 h).1;rw[List.length_take]at h1;have h2:i<k:=by omega
 rw[List.getElem?_take_of_lt h2]at h;exact⟨h,h2⟩
def yJ:List DV->Prop×DV:=eR sM eS eI λn s k=>(dH n=true/\0<=k/\k<=n.eqs.length,.int .i64 (fC n s k.toNat))
def Ds(n:kZ)(s)(k:Int):=show yJ [.agg (ef n),.str s,.int .i64 k]=_ from bz px ik b6 _ n s k
theorem pX:aF Tryz.prog 199 yJ:=by
 refine aF.uR (ps:=[]) (hs:=[]) trivial trivial AX λn s k h=> ?_;try dsimp only at h
 obtain⟨h1,h2,h3⟩:=h;obtain⟨m,rfl⟩:=Int.eq_ofNat_of_zero_le h2;simp only[Int.toNat_natCast];have hle:=akc h1 m;have hm:m<=n.eqs.length:=by omega
 have hlen:(n.eqs.take m).length=m:=by simp;omega
 obtain⟨_,_,_,h4,_,h6⟩:=cO h1;have hd:fC n s m=(CL s ((n.eqs.take m).flatMap (·.names)):Nat):=rfl;have hT:=an6 s ((n.eqs.take m).flatMap (·.names));rw[hd];generalize hTT:CL s ((n.eqs.take m).flatMap (·.names))=T at*;refine aq (A2 @rf.eq_1 @sM.eq_1) (JJ ?_);refine ai (n.eqs.take m) (λk (t:Nat)=>⟨[(1,.str s),(2,.int .i64 m),(3,.ref (ef n)),(7,.int .i64 t),(8,.int .i64 k)],[]⟩) (λk r t=>t+CL s (r.flatMap (·.names))=T) 0 (Nat.zero_le _) CT (by rw[<-hTT,Nat.zero_add]) (λk x r t d hx hd hr=> ?_) (λk t e hr=> ?_)
 ·rw[List.flatMap_cons,akb]at hr;obtain⟨re,hk⟩:=aen hx;rw[hlen]at d;have hxn:=(h6 x (List.mem_of_getElem? re)).1;have d2:k<n.eqs.length:=by omega
  refine aq @d (JJ ?_);refine ai x.names (λj (t:Nat)=>⟨[(1,.str s),(2,.int .i64 m),(3,.ref (ef n)),(7,.int .i64 t),(8,.int .i64 k),(9,.int .i64 j)],[]⟩) (λj q t=>t+CL s q+CL s (r.flatMap (·.names))=T) t (Nat.zero_le _) CT (by omega) (λj y q t dj hy hdj hq=> ?_) (λj t ej hq=> ?_)
  ·have N1:=fk hy;rw[agp]at hq;by_cases ys:y=s
   ·rw[if_pos ys]at hq;subst ys;refine aq (A5 @aj d2 dj (af kO re) N1) (JJ ?_);all_goals first
     |exact⟨t+1,CT,by omega⟩
   ·rw[if_neg ys]at hq;refine aq (A5 @aj d2 dj (af kO re) N1) (A2 ?_ (JJ ?_))<;>intros;all_goals first
     |exact absurd (by assumption) ys
     |exact⟨t,CT,by omega⟩
  ·have hq:t+0+CL s (r.flatMap (·.names))=T:=hq;refine aq (A4 @aj d2 ej (af kO re)) (JJ ?_);all_goals first
    |exact⟨t,CT,by omega⟩
 ·have hr:t+0=T:=hr;rw[hlen]at e;exact aq @e zz;all_goals(rw[<-hr];rfl)
def O1:List DV->Prop×DV:=b5 sM eS λn s=>(dH n=true,.bool (wJ n s))
def X8(n)(s):=show O1 [.agg (ef n),.str s]=_ from aO px ik _ n s
theorem CM:aF Tryz.prog 208 O1:=by
 refine aF.oU (ps:=[]) (hs:=[]) trivial trivial EL λn s h=> ?_;try dsimp only at h
 obtain⟨l1,_⟩:=cO h;refine aq (A2 @uc.eq_1 @sM.eq_1) (JJ ?_);refine ai n.ins (λk (_:Unit)=>⟨[(1,.str s),(2,.ref (ef n)),(5,.int .i64 k)],[]⟩) (λk r _=>wJ n s=r.any λd=>d.name==s) () (Nat.zero_le _) CT rfl (λk x r _ d hx hd hr=> ?_) (λk _ e hr=> ?_)
 ·rw[List.any_cons]at hr;refine aq (A2 d (af fR hx)) (A2 ?_ (JJ ?_))<;>intros;all_goals first
   |exact⟨(),CT,by rw[hr];simp_all⟩
   |(rw[hr];simp_all;done)
 ·rw[List.any_nil]at hr;exact aq (A2 e hr) zz;all_goals rfl
def aeo:List DV->Prop×DV:=eR bj eI eI λp at_ i=>(inP p at_/\0<=i/\i<(nodeAt p at_.toNat).eqs.length,.int .i64 (eqE p at_.toNat i.toNat ((nodeAt p at_.toNat).eqs.getD i.toNat default)))
def akd(p)(at_:Int)(i:Int):=show aeo [.agg (bT p),.int .i64 at_,.int .i64 i]=_ from bz dp b6 b6 _ p at_ i
theorem JX:aF Tryz.prog 198 aeo:=by
 refine aF.uR (ps:=[(196,X7),(208,O1),(199,yJ),(92,yK),(209,Nc)]) (hs:=[]) ⟨qk,CM,pX,mW,EK,trivial⟩ trivial MC λp at_ i h=> ?_;try dsimp only at h
 obtain⟨h1,h2,h3⟩:=h;obtain⟨k,rfl,hk,hn,hs,Rc⟩:=Ew h1;obtain⟨i,rfl⟩:=Int.eq_ofNat_of_zero_le h2;simp only[Int.toNat_natCast]at h3|-;have hPr:=h1;have hi:i<(nodeAt p k).eqs.length:=by omega
 have hx:=hU hi;generalize hnn:nodeAt p k=n at*;generalize n.eqs.getD i default=x at*;obtain⟨_,_,_,h4,_,h6⟩:=cO hs;obtain⟨hx1,DW⟩:=h6 x (List.mem_of_getElem? hx);have si:(k:Int)<p.nodes.length:=by omega
 have hi2:(i:Int)<n.eqs.length:=by omega
 have hq:eqE p k i x=if nT n i [] x.names≠0 then nT n i [] x.names else if(ax x.e).all (oy p k)then 0 else 5:=by rw[eqE,hnn]
 rw[hq];have e1:=λs=>O0 n s;have e2:=λs=>X8 n s;have e3:=λs=>Ds n s i;simp only[eq_true hs]at e1 e2;simp only[eq_true (show dH n=true/\(0:Int)<=i/\(i:Int)<=n.eqs.length from⟨hs,by omega,by omega⟩),Int.toNat_natCast]at e3;refine aq (A6 @zB.eq_1 @bj.eq_1 hn si hi2 (af kO hx)) (JJ ?_);refine ai x.names (λj (_:Unit)=>⟨[(1,.int .i64 k),(2,.int .i64 i),(3,.ref (bT p)),(7,.ptr 0 1 0 0),(8,.ptr 1 1 0 0),(9,.int .i64 j)],[⟨.loc,5,[ef n]⟩,⟨.loc,7,[kO x]⟩]⟩) (λj r _=>nT n i [] x.names=nT n i (x.names.take j) r) () (Nat.zero_le _) CT rfl (λj s r _ d hj hd hr=> ?_) (λj _ e hr=> ?_)
 ·rw[nT]at hr;have Jj:=fk hj;have e1:=e1 s;have e2:=e2 s;have e3:=e3 s;have htk:x.names.take j++[s]=x.names.take (j+1):=by obtain⟨g1,g2⟩:=List.getElem?_eq_some_iff.1 hj;rw[<-g2];exact List.take_append_getElem g1
  rw[htk]at hr;by_cases c1:Vo n s=false
  ·rw[if_pos c1]at hr;rw[c1]at e1;exact aq (A4 @aj d Jj e1) zz;all_goals(rw[hr];rfl)
  rw[if_neg c1]at hr;have c1:Vo n s=true:=by simpa using c1
  rw[c1]at e1;by_cases c2:(wJ n s||decide (0<fC n s i))=true
  ·rw[if_pos (by rw[c2];rfl)]at hr;have hz:(6:Int)=if nT n i [] x.names≠0 then nT n i [] x.names else if(ax x.e).all (oy p k)then 0 else 5:=by rw[hr];rfl
   rw[<-hz];by_cases c3:wJ n s=true
   ·rw[c3]at e2;exact aq (A5 @aj d Jj e1 e2) zz;all_goals rfl
   ·have c3:wJ n s=false:=by simpa using c3
    rw[c3,Bool.false_or]at c2;rw[c3]at e2;have c2:fC n s i>0:=by simpa using c2
    have c2':=eq_true c2;exact aq (A7 @aj d Jj e1 e2 e3 c2') zz;all_goals first|rfl|(exfalso;omega)
  have c2:(wJ n s||decide (0<fC n s i))=false:=by simpa using c2
  rw[c2,Bool.false_or]at hr;have c3:wJ n s=false:=by simp only[Bool.or_eq_false_iff]at c2;exact c2.1
  have c4:¬fC n s i>0:=by simp only[Bool.or_eq_false_iff,decide_eq_false_iff_not]at c2;exact c2.2
  rw[c3]at e2;have c4':¬0<fC n s i:=c4;refine aq (A7 @aj d Jj e1 e2 e3 c4') (JJ ?_);have hjl:j<=x.names.length:=by omega
  have htl:(x.names.take j).length=j:=by simp;omega
  refine ai (x.names.take j) (λm (_:Unit)=>⟨[(1,.int .i64 k),(2,.int .i64 i),(3,.ref (bT p)),(7,.ptr 0 1 0 0),(8,.ptr 1 1 0 0),(9,.int .i64 j),(10,.int .i64 m)],[⟨.loc,5,[ef n]⟩,⟨.loc,7,[kO x]⟩]⟩) (λm q _=>(x.names.take j).any (·==s)=q.any (·==s)) () (by decide) CT rfl (λm y q _ dm hy hdm hq=> ?_) (λm _ em hq=> ?_)
  ·rw[List.any_cons]at hq;obtain⟨hy1,hmj⟩:=aen hy;have N1:=fk hy1;have dm2:m<x.names.length:=by omega
   refine aq (A6 @aj hmj dm2 d Jj N1) (A2 ?_ (JJ ?_))<;>intros;all_goals first
    |exact⟨(),CT,by rw[hq];simp_all⟩
    |(have hz:(x.names.take j).any (·==s)=true:=by rw[hq];simp_all
      rw[if_pos hz]at hr;rw[hr];rfl)
  ·rw[htl]at em;have hq:(x.names.take j).any (·==s)=false:=hq;rw[hq,if_neg (by decide)]at hr;refine aq @em (JJ ?_);all_goals first
    |exact⟨(),CT,hr⟩
 ·have hr:nT n i [] x.names=0:=by rw[hr,nT]
  rw[hr,if_neg (by simp)];have hsx:=DW;simp only[er,Bool.and_eq_true,decide_eq_true_eq]at hsx;have e7:=yL x.e;rw[eq_true (show dT x.e<=1000000000 by omega)]at e7;simp only[ag x.e]at e7;have RH:=jm x.e;have hpt:∀y∈ax x.e,Nc [.agg (bT p),.int .i64 k,.agg (cA y)]=(True,.bool (oy p k y)):=λy hy=>by have:=abV p k y;rw[eq_true (show inP p k/\y.arms.length<=1000000 from⟨hPr,(Lt DW hy).2.1⟩),Int.toNat_natCast]at this;exact this
  refine aq (A3 @aj e e7) (JJ ?_);generalize ax x.e=l at*;refine ai l (λm (_:Unit)=>⟨[(1,.int .i64 k),(3,.ref (bT p)),(11,.sl (l.map cA)),(12,.int .i64 m)],[⟨.loc,5,[ef n]⟩,⟨.loc,7,[kO x]⟩]⟩) (λm q _=>q.all (oy p k)=l.all (oy p k)) () (by decide) CT rfl (λm y q _ dm hy hdm hq=> ?_) (λm _ em hq=> ?_)
  ·rw[List.all_cons]at hq;have e8:=hpt y (List.mem_of_getElem? hy);simp only[ag y]at e8;refine aq (A4 dm e8 (af cA hy) (ag y)) (A2 ?_ (JJ ?_))<;>intros;all_goals first
    |exact⟨(),CT,by rw[<-hq];simp_all⟩
    |(rw[<-hq];simp_all;done)
  ·have hq:true=l.all (oy p k):=hq;rw[<-hq];exact aq @em zz;all_goals rfl
theorem arK{a b:Lp}(h:a=b):a.1=b.1/\a.2.1=b.2.1/\a.2.2=b.2.2:=by subst h;exact⟨rfl,rfl,rfl⟩
def Nd:List DV->Prop×DV:=b5 bj eI λp at_=>(inP p at_,.agg (lV (pq p at_.toNat (nodeAt p at_.toNat))))
def abW(p)(at_:Int):=show Nd [.agg (bT p),.int .i64 at_]=_ from aO dp b6 _ p at_
theorem EM:aF Tryz.prog 183 Nd:=by
 refine aF.oU (ps:=[(147,AQ),(196,X7),(197,Vp),(95,vr),(198,aeo),(199,yJ)]) (hs:=[]) ⟨gF,qk,vC,fi,JX,pX,trivial⟩ trivial Ho λp at_ h=> ?_;try dsimp only at h
 obtain⟨k,rfl,hk,hn,hs,Rc⟩:=Ew h;have hPr:=h;simp only[Int.toNat_natCast];have hE:=tR h.1;have e0:=s8 (nodeAt p k);have e1:=O0 (nodeAt p k);have e2:=SM p;have e3:=λi=>akd p k i;have e4:=λs=>Ds (nodeAt p k) s (nodeAt p k).eqs.length;simp only[eq_true hs]at e0 e1;simp only[eq_true hE]at e2;simp only[Int.toNat_natCast,eq_true (show dH (nodeAt p k)=true/\(0:Int)<=((nodeAt p k).eqs.length:Int)/\((nodeAt p k).eqs.length:Int)<=(nodeAt p k).eqs.length from⟨hs,by omega,by omega⟩)]at e4;simp only[Int.toNat_natCast]at e3;have e3':∀i:Nat,i<(nodeAt p k).eqs.length->aeo [.agg (bT p),.int .i64 k,.int .i64 i]=(True,.int .i64 (eqE p k i ((nodeAt p k).eqs.getD i default))):=λi hi=>by rw[e3 i,eq_true (show inP p k/\(0:Int)<=i/\(i:Int)<(nodeAt p k).eqs.length from⟨hPr,by omega,by omega⟩)];simp only[Int.toNat_natCast]
 generalize hnn:nodeAt p k=n at*;obtain⟨l1,l2,l3,h4,_,h6⟩:=cO hs;have si:(k:Int)<p.nodes.length:=by omega
 have hl:=BU hs;refine aq (A5 @vD.eq_1 @bj.eq_1 hn si e0) (JJ ?_);refine ai (dA n) (λj (_:Unit)=>⟨[(1,.int .i64 k),(2,.ref (bT p)),(4,.ptr 0 1 0 0),(5,.ptr 1 1 0 0),(6,.sl ((dA n).map fR)),(7,.int .i64 j)],[⟨.loc,3,[lV eu]⟩,⟨.loc,5,[ef n]⟩]⟩) (λj r _=>r.any (onE p n)=(dA n).any (onE p n)) () (Nat.zero_le _) CT rfl (λj x r _ d hx hd hr=> ?_) (λj _ e hr=> ?_)
 ·rw[List.any_cons]at hr;have e1:=e1 x.on;have e2:=e2 x.ct;have ho:onE p n x=(x.on !=[]&&(!Vo n x.on|| !my p.en x.ct)):=rfl;have hz:onE p n x=true->((k:Int),(-1:Int),(5:Int))=pq p k n:=λhh=>by rw[pq,<-hr,hh,Bool.true_or,if_pos rfl]
  refine aq (A5 @gL d (af fR hx) e1 e2) (A4 ?_ ?_ ?_ (JJ ?_))<;>intros;all_goals first
   |exact arK (hz (by rw[ho];simp_all))
   |exact⟨(),CT,by rw[<-hr];simp_all⟩
 ·have hr:false=(dA n).any (onE p n):=hr;have hz:pq p k n=if aX (vu p k) 0 n.eqs≠eu then aX (vu p k) 0 n.eqs else if(n.outs++n.vars).any (λd=>fC n d.name n.eqs.length==0)then(k,-1,5)else eu:=by rw[pq,<-hr];rfl
  rw[hz];refine aq @e (JJ ?_);refine ai n.eqs (λj (_:Unit)=>⟨[(1,.int .i64 k),(2,.ref (bT p)),(4,.ptr 0 1 0 0),(5,.ptr 1 1 0 0),(6,.sl ((dA n).map fR)),(8,.int .i64 j)],[⟨.loc,3,[lV eu]⟩,⟨.loc,5,[ef n]⟩]⟩) (λj r _=>aX (vu p k) 0 n.eqs=aX (vu p k) j r) () (by decide) CT rfl (λj x r _ d hx hd hr=> ?_) (λj _ e hr=> ?_)
  ·rw[aX]at hr;have e3:=e3' j d;rw[show n.eqs.getD j default=x from by rw[List.getD_eq_getElem?_getD,hx];rfl]at e3;have hf:vu p k j x=if eqE p k j x=0 then eu else(k,j,eqE p k j x):=rfl;refine aq (A3 @gL d e3) (A2 (λhn=> ?_) (JJ (λhn=> ?_)));all_goals try exact⟨(),CT,by rw[hr,hf,if_pos hn,if_pos rfl]⟩
   refine arK ?_;have hq:vu p k j x=((k:Int),(j:Int),eqE p k j x):=by rw[hf,if_neg hn]
   have bw:¬vu p k j x=eu:=by rw[hq];intro hh;exact hn (congrArg (λf:Lp=>f.2.2) hh)
   rw[if_neg bw]at hr;rw[hr,if_pos bw,hq];rfl
  ·have hr:aX (vu p k) 0 n.eqs=eu:=hr;rw[hr,if_neg (λhh=>hh rfl)];refine aq @e (JJ ?_);refine ai (n.outs++n.vars) (λj (_:Unit)=>⟨[(1,.int .i64 k),(4,.ptr 0 1 0 0),(5,.ptr 1 1 0 0),(6,.sl ((dA n).map fR)),(10,.int .i64 (n.ins.length+j))],[⟨.loc,3,[lV eu]⟩,⟨.loc,5,[ef n]⟩]⟩) (λj r _=>(n.outs++n.vars).any (λd=>fC n d.name n.eqs.length==0)=r.any (λd=>fC n d.name n.eqs.length==0)) () (by decide) (CF (A2 @Int.natCast_zero @Int.add_zero)) rfl (λj x r _ d hx hd hr=> ?_) (λj _ e hr=> ?_)
   ·rw[List.any_cons]at hr;have e4:=e4 x.name;have DW:(dA n)[n.ins.length+j]? =some x:=by rw[dA,List.append_assoc,List.getElem?_append_right (by omega),Nat.add_sub_cancel_left];exact hx
    have hx3:=af fR DW;have d2:=(List.getElem?_eq_some_iff.1 DW).1;have d3:(n.ins.length:Int)+j<(dA n).length:=by omega
    have hj:((n.ins.length:Int)+j).toNat=n.ins.length+j:=by omega
    refine aq (A5 @gL d3 hx3 hj e4) (A2 ?_ (JJ ?_))<;>intros;all_goals first
     |exact⟨(),(CF @Int.add_assoc),by rw[hr];simp_all⟩
     |(refine arK ?_
       rw[hr,if_pos (by simp_all)];rfl)
   ·have hr:_=false:=hr;have d3:¬(n.ins.length:Int)+j<(dA n).length:=by
     have:(dA n).length=n.ins.length+(n.outs++n.vars).length:=by simp[dA]
     omega
    rw[hr];refine aq @d3 (JJ ?_);all_goals rfl
def OS:List DV->Prop×DV:=bB bj λp=>(bx p=true,.agg (lV (fX p)))
def X0(p):=show OS [.agg (bT p)]=_ from aH dp _ p
theorem Ms(f:Lp):Vf true [0,0,0] (.agg [.int .i64 f.1,.int .i64 f.2.1,.int .i64 f.2.2]) (.agg [.int .i64 0,.int .i64 0,.int .i64 0])=(True,.bool (!decide (f=eu))):=by rw[oO,hZ];obtain⟨a,b,c⟩:=f;simp[eu]
theorem CH:aF Tryz.prog 163 OS:=by
 refine aF.mo (ps:=[(182,O2),(95,vr),(183,Nd)]) (hs:=[]) ⟨CN,fi,EM,trivial⟩ trivial EN λp h=> ?_;try dsimp only at h
 have hP:bx p=true:=h;have e1:=X9 p;rw[eq_true hP]at e1;have Rc:=(eO hP).1;have e2:∀i:Nat,i<p.nodes.length->Nd [.agg (bT p),.int .i64 i]=(True,.agg (lV (pq p i (nodeAt p i)))):=λi hi=>by have:=abW p i;rw[eq_true (show inP p i from⟨hP,by omega,by omega⟩)]at this;simp only[Int.toNat_natCast]at this;exact this
 by_cases c1:kj p=0;rotate_left
 ·have hz:fX p=flt 0 (-1) (kj p):=by rw[fX,if_pos c1];rfl
  rw[hz];exact aq (A4 @nU.eq_1 @gL @bj.eq_1 e1) zz;all_goals rfl
 have hz:fX p=aX (pq p) 0 p.nodes:=by rw[fX,if_neg (λhh=>hh c1)]
 rw[hz];refine aq (A4 @nU.eq_1 @bj.eq_1 e1 c1) (JJ ?_);refine ai p.nodes (λj (_:Unit)=>⟨[(1,.ref (bT p)),(2,.ptr 0 1 0 0),(4,.int .i64 j)],[⟨.loc,3,[lV eu]⟩]⟩) (λj r _=>aX (pq p) 0 p.nodes=aX (pq p) j r) () (by decide) CT rfl (λj x r _ d hx hd hr=> ?_) (λj _ e hr=> ?_)
 ·rw[aX]at hr;have e3:=e2 j d;have hn:nodeAt p j=x:=by unfold nodeAt;rw[List.getD_eq_getElem?_getD,hx];rfl
  rw[hn]at e3;generalize pq p j x=f at*;by_cases hf:f=eu
  ·rw[if_pos hf]at hr;have hd:=decide_eq_true hf;refine aq (A4 d e3 @Ms hd) (JJ ?_);all_goals exact⟨(),CT,hr⟩
  ·rw[if_neg hf]at hr;have hd:=decide_eq_false hf;rw[hr];exact aq (A4 d e3 @Ms hd) zz;all_goals rfl
 ·have hr:aX (pq p) 0 p.nodes=eu:=hr;rw[hr];refine aq @e (JJ ?_);all_goals rfl
end
end Go.Proofs.YtcokmopocppmiaaGreat

/- Programs: what leads where: the walk (15). -/
import Derived.Test.YtldnkkkooabaeaaGreatPgB
set_option linter.all false
set_option maxRecDepth 20000
namespace Go.Proofs.YtldnkkkooabaeaaGreat
noncomputable section
open Go.Nk
@[reducible] def mI(f:L6):Ab:=[.int .i64 f.1,.int .i64 f.2.1,.int .i64 f.2.2]
abbrev aDL:L6->J:=eA mI
def w7:Ab->Prop×J:=fp eI eI eI λa b c=>(True,.agg (mI (flt a b c)))
def iI(a)(b)(c):=show w7 [.int .i64 a,.int .i64 b,.int .i64 c]=_ from bW cF cF cF _ a b c
theorem fW:aJ Tryz.prog 102 w7:=by refine aJ.zP (ps:=[]) (I:=[]) trivial trivial aFY λa b c _=>?_;refine ao @au2.eq_1 (JJ ?_);all_goals rfl
def db:Ab->Prop×J:=cH tT eS λn s=>(dA n=true,.bool (V4 n s))
def Sc(n)(s):=show db [.agg (fe n),.str s]=_ from aY qT kj _ n s
theorem sD:aJ Tryz.prog 199 db:=by
 refine aJ.se (ps:=[(132,w8)]) (I:=[]) ⟨gO,BB⟩ trivial aHD λn s h=>?_;try dsimp only at h
 have Y:=pA n s;rw[lU h]at Y;refine ao (cL @awl.eq_1 @tT.eq_1 Y) (JJ ?_);all_goals rfl
theorem as5{l}(h:vJ l=true):Gq l:=by simp only[vJ,ab,ir,BE]at h;obtain⟨h1,h2⟩:=h;refine⟨by omega,λx U=>?_⟩;have:=h2 x U;simp only[ya,ab,ir]at this;have:=this.1;omega
theorem iU{α} [Inhabited α]{l:List α}{i}(h:i<l.length):l[i]? =some (l.getD i default):=by rw[BY,tx h];rfl
theorem vu{p:fc}(h:bF p=true):Gq p.en:=by simp only[bF,ab]at h;exact as5 h.1.1
def YI:Ab->Prop×J:=cH bA eS λp s=>(Gq p.en,.bool (nP p.en s))
def azf(p:fc)(s):=show YI [.agg (cE p),.str s]=_ from aY dY kj _ p s
theorem azg:aJ Tryz.prog 200 YI:=by
 refine aJ.se (ps:=[(104,zc)]) (I:=[]) ⟨cZ,BB⟩ trivial aHE λp s h=>?_;try dsimp only at h
 obtain⟨en,ns⟩:=p;have Y:=oP en s;rw[lU h]at Y;refine ao (cL @awm.eq_1 @bA.eq_1 Y) (JJ ?_);all_goals rfl
def R6(p:fc)(at_:Int):Prop:=bF p=true/\0<=at_/\at_<p.nodes.length
theorem Gv{p:fc}{at_}(h:R6 p at_):∃k:Nat,at_=k/\k<p.nodes.length/\(p.nodes.map fe).getD k []=fe (nodeAt p k)/\dA (nodeAt p k)=true/\p.nodes.length<=10:=by obtain⟨h1,h2,h3⟩:=h;refine⟨at_.toNat,by omega,by omega,ag fe (iU (by omega)),?_,(fE h1).1⟩;exact(fE h1).2 _ (by unfold nodeAt;exact ed (iU (by omega)))
def P2:Ab->Prop×J:=fp bA eI gX λp at_ e=>(R6 p at_/\e.arms.length<=1000000,.bool (p8 p at_.toNat e))
def afN(p)(at_:Int)(e:Ex):=show P2 [.agg (cE p),.int .i64 at_,.agg (cO e)]=_ from bW dY cF gC _ p at_ e
theorem aIQ:aJ Tryz.prog 212 P2:=by
 refine aJ.zP (ps:=[(199,db),(200,YI),(157,Jk)]) (I:=[]) ⟨sD,azg,px,BB⟩ trivial aHR λp at_ e h=>?_;try dsimp only at h
 obtain⟨h1,h2⟩:=h;obtain⟨k,rfl,hk,hn,I,Ua⟩:=Gv h1;have hE:=vu h1.1;have hP:=h1.1;obtain⟨en,ns⟩:=p;dsimp only at hk hn hE Ua;have Y:=Sc (nodeAt ⟨en,ns⟩ k) e.name;have e2:=λs=>azf ⟨en,ns⟩ s;have e3:=Gn ⟨en,ns⟩ e.name;rw[lU I]at Y;rw[lU hP]at e3;simp only[lU hE]at e2;simp only[GC];have yK:(k:Int)<ns.length:=by omega
 generalize WS:nodeAt ⟨en,ns⟩ k=n at*;have hm:p8 ⟨en,ns⟩ k e=if(e.kind=3\/e.kind=11\/e.kind=12)/\V4 n e.name=false then false else if !e.arms.all (nP en)then false
  else if e.kind=4 then nP en e.name else if e.kind=13 then decide (0<=jx ⟨en,ns⟩ e.name)&&decide (jx ⟨en,ns⟩ e.name<k)else e.kind !=17:=by
  unfold p8;simp only[WS]
 rw[hm];by_cases k3:e.kind=3\/e.kind=11\/e.kind=12
 .by_cases hv:V4 n e.name=false
  .rw[gr ⟨k3,hv⟩];rcases k3 with k3|k3|k3;all_goals(exact ao (ey @mB.eq_1 @gX.eq_1 @bA.eq_1 (ai e) Y hn yK k3 hv) zz)
  .have hv:V4 n e.name=true:=by simpa using hv
   rw[ba (λhh=>by rw[hv]at hh;cases hh.2),ba (show¬e.kind=4 by omega),ba (show¬e.kind=13 by omega),show(e.kind !=17)=true by simp;omega];rcases k3 with k3|k3|k3;all_goals(refine ao (ey @mB.eq_1 @gX.eq_1 @bA.eq_1 (ai e) Y hn yK k3 hv) (JJ ?_))
   all_goals refine aj e.arms (λi (_:Unit)=>⟨[(1,.int .i64 k),(3,.ref (cE ⟨en,ns⟩)),(5,.ref (cO e)),(8,.int .i64 i)],[⟨.loc,5,[fe n]⟩]⟩) (λi r _=>r.all (nP en)=e.arms.all (nP en)) () (AI _) (CF (bV (ai e) k3)) rfl (λi x r _ d U Z E=>?_) (λi _ e5 E=>?_)
   all_goals first
    |rw[MM]at E
     have A3:=fN U;have e4:=e2 x;refine ao (jg @ak (ai e) d A3 e4 k3) (bV ?_ (JJ ?_))<;>intros;all_goals first
      |exact⟨(),CT,by rw[<-E];simp_all⟩
      |(rw[<-E];simp_all;done)
    |rw[C1]at E
     rw[<-E];exact ao (fj @ak (ai e) e5 k3) zz;all_goals first
      |rfl
 rw[ba (λhh=>k3 hh.1)];have q3:¬e.kind=3:=λhh=>k3 (.inl hh);have xq:¬e.kind=11:=λhh=>k3 (.inr (.inl hh));have xr:¬e.kind=12:=λhh=>k3 (.inr (.inr hh));refine ao (jg @mB.eq_1 @gX.eq_1 @bA.eq_1 (ai e) hn yK) (JJ (λhn hn hn=>?_));refine aj e.arms (λi (_:Unit)=>⟨[(1,.int .i64 k),(3,.ref (cE ⟨en,ns⟩)),(5,.ref (cO e)),(8,.int .i64 i)],[⟨.loc,5,[fe n]⟩]⟩) (λi r _=>r.all (nP en)=e.arms.all (nP en)) () (AI _) (CF (ai e)) rfl (λi x r _ d U Z E=>?_) (λi _ e5 E=>?_)
 .rw[MM]at E;have A3:=fN U;have e4:=e2 x;refine ao (fF @ak (ai e) d A3 e4) (bV ?_ (JJ ?_))<;>intros;all_goals first
   |exact⟨(),CT,by rw[<-E];simp_all⟩
   |(rw[<-E];simp_all;done)
 .rw[C1]at E;rw[<-E];have e4:=e2 e.name;refine ao (fF @ak (ai e) e5 e3 e4) (fj ?_ ?_ ?_ (JJ ?_))<;>intros;all_goals first
   |(simp_all;done)
   |grind
def Ey(s:B3)(l:BS):Nat:=(l.filter (·==s)).length
theorem akA(s x)(l):Ey s (x::l)=(if x=s then 1 else 0)+Ey s l:=by
 by_cases h:x=s
 .subst h;simp[Ey];omega
 .simp[Ey,h]
theorem ao0(s)(l m):Ey s (l++m)=Ey s l+Ey s m:=by simp[Ey]
theorem as6(s)(l:BS):Ey s l<=l.length:=by simp[Ey,List.length_filter_le]
theorem ao1{n:kY}(h:dA n=true)(k):((n.eqs.take k).flatMap (·.names)).length<=600:=by
 obtain⟨_,_,_,h4,_,h6⟩:=dz h;have:∀l:List xY,(∀x∈l,x.names.length<=20)->(l.flatMap (·.names)).length<=20*l.length:=by
  intro l hl;induction l with
  |nil=>simp
  |cons x l ih=>
   have:=ih λy hy=>hl y (XN _ hy);have:=hl x (KV ..);simp only[Cq,AS,IS];omega
 have:=this (n.eqs.take k) λx U=>(h6 x (List.mem_of_mem_take U)).1;have:(n.eqs.take k).length<=30:=by simp;omega
 omega
theorem ah3{α}{l:List α}{k i}{x:α}(h:(l.take k)[i]? =some x):l[i]? =some x/\i<k:=by
 have h1:=(pc.1 h).1;rw[List.length_take]at h1;have h2:i<k:=by omega
 rw[List.getElem?_take_of_lt h2]at h;exact⟨h,h2⟩
def Aq:Ab->Prop×J:=fp tT eS eI λn s k=>(dA n=true/\0<=k/\k<=n.eqs.length,.int .i64 (gJ n s k.toNat))
def azh(n:kY)(s)(k:Int):=show Aq [.agg (fe n),.str s,.int .i64 k]=_ from bW qT kj cF _ n s k
theorem azi:aJ Tryz.prog 202 Aq:=by
 refine aJ.zP (ps:=[]) (I:=[]) trivial trivial aHG λn s k h=>?_;try dsimp only at h
 obtain⟨h1,h2,h3⟩:=h;obtain⟨m,rfl⟩:=Cy h2;simp only[GC];have hle:=ao1 h1 m;have hm:m<=n.eqs.length:=by omega
 have hlen:(n.eqs.take m).length=m:=by simp;omega
 obtain⟨_,_,_,h4,_,h6⟩:=dz h1;have Z:gJ n s m=(Ey s ((n.eqs.take m).flatMap (·.names)):Nat):=rfl;have hT:=as6 s ((n.eqs.take m).flatMap (·.names));rw[Z];generalize hTT:Ey s ((n.eqs.take m).flatMap (·.names))=T at*;refine ao (bV @awy.eq_1 @tT.eq_1) (JJ ?_);refine aj (n.eqs.take m) (λk (t:Nat)=>⟨[(1,.str s),(2,.int .i64 m),(3,.ref (fe n)),(7,.int .i64 t),(8,.int .i64 k)],[]⟩) (λk r t=>t+Ey s (r.flatMap (·.names))=T) 0 (AI _) CT (by rw[<-hTT,GL]) (λk x r t d U Z E=>?_) (λk t e E=>?_)
 .rw[Cq,ao0]at E;obtain⟨A3,hk⟩:=ah3 U;rw[hlen]at d;have _N:=(h6 x (ed A3)).1;have d2:k<n.eqs.length:=by omega
  refine ao @d (JJ ?_);refine aj x.names (λj (t:Nat)=>⟨[(1,.str s),(2,.int .i64 m),(3,.ref (fe n)),(7,.int .i64 t),(8,.int .i64 k),(9,.int .i64 j)],[]⟩) (λj q t=>t+Ey s q+Ey s (r.flatMap (·.names))=T) t (AI _) CT (by omega) (λj y q t dj hy Hs hq=>?_) (λj t ej hq=>?_)
  .have T7:=fN hy;rw[akA]at hq;by_cases ys:y=s
   .rw[gr ys]at hq;subst ys;refine ao (fF @ak d2 dj (ag me A3) T7) (JJ ?_);all_goals first
     |exact⟨t+1,CT,by omega⟩
   .rw[ba ys]at hq;refine ao (fF @ak d2 dj (ag me A3) T7) (bV ?_ (JJ ?_))<;>intros;all_goals first
     |exact absurd (by assumption) ys
     |exact⟨t,CT,by omega⟩
  .have hq:t+0+Ey s (r.flatMap (·.names))=T:=hq;refine ao (fj @ak d2 ej (ag me A3)) (JJ ?_);all_goals first
    |exact⟨t,CT,by omega⟩
 .have E:t+0=T:=E;rw[hlen]at e;exact ao @e zz;all_goals(rw[<-E];rfl)
def Sd:Ab->Prop×J:=cH tT eS λn s=>(dA n=true,.bool (yb n s))
def abI(n)(s):=show Sd [.agg (fe n),.str s]=_ from aY qT kj _ n s
theorem aIR:aJ Tryz.prog 211 Sd:=by
 refine aJ.se (ps:=[]) (I:=[]) trivial trivial aHQ λn s h=>?_;try dsimp only at h
 obtain⟨l1,_⟩:=dz h;refine ao (bV @axd.eq_1 @tT.eq_1) (JJ ?_);refine aj n.ins (λk (_:Unit)=>⟨[(1,.str s),(2,.ref (fe n)),(5,.int .i64 k)],[]⟩) (λk r _=>yb n s=r.any λd=>d.name==s) () (AI _) CT rfl (λk x r _ d U Z E=>?_) (λk _ e E=>?_)
 .rw[Hl]at E;refine ao (bV d (ag gG U)) (bV ?_ (JJ ?_))<;>intros;all_goals first
   |exact⟨(),CT,by rw[E];simp_all⟩
   |(rw[E];simp_all;done)
 .rw[On]at E;exact ao (bV e E) zz;all_goals rfl
def vB:Ab->Prop×J:=fp bA eI eI λp at_ i=>(R6 p at_/\0<=i/\i<(nodeAt p at_.toNat).eqs.length,.int .i64 (F5 p at_.toNat i.toNat ((nodeAt p at_.toNat).eqs.getD i.toNat default)))
def ao2(p)(at_:Int)(i:Int):=show vB [.agg (cE p),.int .i64 at_,.int .i64 i]=_ from bW dY cF cF _ p at_ i
theorem aIS:aJ Tryz.prog 201 vB:=by
 refine aJ.zP (ps:=[(199,db),(211,Sd),(202,Aq),(99,Ar),(212,P2)]) (I:=[]) ⟨sD,aIR,azi,oy,aIQ,BB⟩ trivial aHF λp at_ i h=>?_;try dsimp only at h
 obtain⟨h1,h2,h3⟩:=h;obtain⟨k,rfl,hk,hn,I,Ua⟩:=Gv h1;obtain⟨i,rfl⟩:=Cy h2;simp only[GC]at h3|-;have _O:=h1;have hi:i<(nodeAt p k).eqs.length:=by omega
 have U:=iU hi;generalize WS:nodeAt p k=n at*;generalize n.eqs.getD i default=x at*;obtain⟨_,_,_,h4,_,h6⟩:=dz I;obtain⟨N3,Ll⟩:=h6 x (ed U);have yK:(k:Int)<p.nodes.length:=by omega
 have Hp:(i:Int)<n.eqs.length:=by omega
 have hq:F5 p k i x=if pC n i [] x.names≠0 then pC n i [] x.names else if(az x.e).all (p8 p k)then 0 else 5:=by rw[F5,WS]
 rw[hq];have Y:=λs=>Sc n s;have e2:=λs=>abI n s;have e3:=λs=>azh n s i;simp only[lU I]at Y e2;simp only[lU (show dA n=true/\(0:Int)<=i/\(i:Int)<=n.eqs.length from⟨I,by omega,by omega⟩),GC]at e3;refine ao (jg @awn.eq_1 @bA.eq_1 hn yK Hp (ag me U)) (JJ ?_);refine aj x.names (λj (_:Unit)=>⟨[(1,.int .i64 k),(2,.int .i64 i),(3,.ref (cE p)),(7,.ptr 0 1 0 0),(8,.ptr 1 1 0 0),(9,.int .i64 j)],[⟨.loc,5,[fe n]⟩,⟨.loc,7,[me x]⟩]⟩) (λj r _=>pC n i [] x.names=pC n i (x.names.take j) r) () (AI _) CT rfl (λj s r _ d hj Z E=>?_) (λj _ e E=>?_)
 .rw[pC]at E;have OM:=fN hj;have Y:=Y s;have e2:=e2 s;have e3:=e3 s;have dh:x.names.take j++[s]=x.names.take (j+1):=by obtain⟨g1,g2⟩:=pc.1 hj;rw[<-g2];exact List.take_append_getElem g1
  rw[dh]at E;by_cases c1:V4 n s=false
  .rw[gr c1]at E;rw[c1]at Y;exact ao (fj @ak d OM Y) zz;all_goals(rw[E];rfl)
  rw[ba c1]at E;have c1:V4 n s=true:=by simpa using c1
  rw[c1]at Y;by_cases c2:(yb n s||decide (0<gJ n s i))=true
  .rw[gr (by rw[c2];rfl)]at E;have hz:(6:Int)=if pC n i [] x.names≠0 then pC n i [] x.names else if(az x.e).all (p8 p k)then 0 else 5:=by rw[E];rfl
   rw[<-hz];by_cases c3:yb n s=true
   .rw[c3]at e2;exact ao (fF @ak d OM Y e2) zz;all_goals rfl
   .have c3:yb n s=false:=by simpa using c3
    rw[c3,Mc]at c2;rw[c3]at e2;have c2:gJ n s i>0:=by simpa using c2
    have HR:=lU c2;exact ao (rO @ak d OM Y e2 e3 HR) zz;all_goals first|rfl|(exfalso;omega)
  have c2:(yb n s||decide (0<gJ n s i))=false:=by simpa using c2
  rw[c2,Mc]at E;have c3:yb n s=false:=by simp only[J8]at c2;exact c2.1
  have c4:¬gJ n s i>0:=by simp only[J8,Of]at c2;exact c2.2
  rw[c3]at e2;have c4':¬0<gJ n s i:=c4;refine ao (rO @ak d OM Y e2 e3 c4') (JJ ?_);have Ss:j<=x.names.length:=by omega
  have QM:(x.names.take j).length=j:=by simp;omega
  refine aj (x.names.take j) (λm (_:Unit)=>⟨[(1,.int .i64 k),(2,.int .i64 i),(3,.ref (cE p)),(7,.ptr 0 1 0 0),(8,.ptr 1 1 0 0),(9,.int .i64 j),(10,.int .i64 m)],[⟨.loc,5,[fe n]⟩,⟨.loc,7,[me x]⟩]⟩) (λm q _=>(x.names.take j).any (·==s)=q.any (·==s)) () (by decide) CT rfl (λm y q _ dm hy hdm hq=>?_) (λm _ em hq=>?_)
  .rw[Hl]at hq;obtain⟨hy1,hmj⟩:=ah3 hy;have T7:=fN hy1;have dm2:m<x.names.length:=by omega
   refine ao (jg @ak hmj dm2 d OM T7) (bV ?_ (JJ ?_))<;>intros;all_goals first
    |exact⟨(),CT,by rw[hq];simp_all⟩
    |(have hz:(x.names.take j).any (·==s)=true:=by rw[hq];simp_all
      rw[gr hz]at E;rw[E];rfl)
  .rw[QM]at em;have hq:(x.names.take j).any (·==s)=false:=hq;rw[hq,ba (by decide)]at E;refine ao @em (JJ ?_);all_goals first
    |exact⟨(),CT,E⟩
 .have E:pC n i [] x.names=0:=by rw[E,pC]
  rw[E,ba (by simp)];have vD:=Ll;simp only[eG,ab,ir]at vD;have e7:=As x.e;rw[lU (show dt x.e<=1000000000 by omega)]at e7;simp only[ai x.e]at e7;have PJ:=kf x.e;have _P:∀y∈az x.e,P2 [.agg (cE p),.int .i64 k,.agg (cO y)]=(True,.bool (p8 p k y)):=λy hy=>by have:=afN p k y;rw[lU (show R6 p k/\y.arms.length<=1000000 from⟨_O,(ayV Ll hy).2.1⟩),GC]at this;exact this
  refine ao (cL @ak e e7) (JJ ?_);generalize az x.e=l at*;refine aj l (λm (_:Unit)=>⟨[(1,.int .i64 k),(3,.ref (cE p)),(11,.sl (l.map cO)),(12,.int .i64 m)],[⟨.loc,5,[fe n]⟩,⟨.loc,7,[me x]⟩]⟩) (λm q _=>q.all (p8 p k)=l.all (p8 p k)) () (by decide) CT rfl (λm y q _ dm hy hdm hq=>?_) (λm _ em hq=>?_)
  .rw[MM]at hq;have e8:=_P y (ed hy);simp only[ai y]at e8;refine ao (fj dm e8 (ag cO hy) (ai y)) (bV ?_ (JJ ?_))<;>intros;all_goals first
    |exact⟨(),CT,by rw[<-hq];simp_all⟩
    |(rw[<-hq];simp_all;done)
  .have hq:true=l.all (p8 p k):=hq;rw[<-hq];exact ao @em zz;all_goals rfl
theorem _Q{a b:L6}(h:a=b):a.1=b.1/\a.2.1=b.2.1/\a.2.2=b.2.2:=by subst h;exact⟨rfl,rfl,rfl⟩
def P3:Ab->Prop×J:=cH bA eI λp at_=>(R6 p at_,.agg (mI (qR p at_.toNat (nodeAt p at_.toNat))))
def afO(p)(at_:Int):=show P3 [.agg (cE p),.int .i64 at_]=_ from aY dY cF _ p at_
theorem aIT:aJ Tryz.prog 186 P3:=by
 refine aJ.se (ps:=[(154,Ct),(199,db),(200,YI),(102,w7),(201,vB),(202,Aq)]) (I:=[]) ⟨iw,sD,azg,fW,aIS,azi,BB⟩ trivial aHr λp at_ h=>?_;try dsimp only at h
 obtain⟨k,rfl,hk,hn,I,Ua⟩:=Gv h;have _O:=h;simp only[GC];have hE:=vu h.1;have e0:=uU (nodeAt p k);have Y:=Sc (nodeAt p k);have e2:=azf p;have e3:=λi=>ao2 p k i;have e4:=λs=>azh (nodeAt p k) s (nodeAt p k).eqs.length;simp only[lU I]at e0 Y;simp only[lU hE]at e2;simp only[GC,lU (show dA (nodeAt p k)=true/\(0:Int)<=((nodeAt p k).eqs.length:Int)/\((nodeAt p k).eqs.length:Int)<=(nodeAt p k).eqs.length from⟨I,by omega,by omega⟩)]at e4;simp only[GC]at e3;have e3':∀i:Nat,i<(nodeAt p k).eqs.length->vB [.agg (cE p),.int .i64 k,.int .i64 i]=(True,.int .i64 (F5 p k i ((nodeAt p k).eqs.getD i default))):=λi hi=>by rw[e3 i,lU (show R6 p k/\(0:Int)<=i/\(i:Int)<(nodeAt p k).eqs.length from⟨_O,by omega,by omega⟩)];simp only[GC]
 generalize WS:nodeAt p k=n at*;obtain⟨l1,l2,l3,h4,_,h6⟩:=dz I;have yK:(k:Int)<p.nodes.length:=by omega
 have hl:=Dt I;refine ao (fF @avZ.eq_1 @bA.eq_1 hn yK e0) (JJ ?_);refine aj (dQ n) (λj (_:Unit)=>⟨[(1,.int .i64 k),(2,.ref (cE p)),(4,.ptr 0 1 0 0),(5,.ptr 1 1 0 0),(6,.sl ((dQ n).map gG)),(7,.int .i64 j)],[⟨.loc,3,[mI fk]⟩,⟨.loc,5,[fe n]⟩]⟩) (λj r _=>r.any (Qx p n)=(dQ n).any (Qx p n)) () (AI _) CT rfl (λj x r _ d U Z E=>?_) (λj _ e E=>?_)
 .rw[Hl]at E;have Y:=Y x.on;have e2:=e2 x.ct;have ho:Qx p n x=(x.on !=[]&&(!V4 n x.on|| !nP p.en x.ct)):=rfl;have hz:Qx p n x=true->((k:Int),(-1:Int),(5:Int))=qR p k n:=λhh=>by rw[qR,<-E,hh,Bool.true_or,gr rfl]
  refine ao (fF @iI d (ag gG U) Y e2) (fj ?_ ?_ ?_ (JJ ?_))<;>intros;all_goals first
   |exact _Q (hz (by rw[ho];simp_all))
   |exact⟨(),CT,by rw[<-E];simp_all⟩
 .have E:false=(dQ n).any (Qx p n):=E;have hz:qR p k n=if bk (w9 p k) 0 n.eqs≠fk then bk (w9 p k) 0 n.eqs else if(n.outs++n.vars).any (λd=>gJ n d.name n.eqs.length==0)then(k,-1,5)else fk:=by rw[qR,<-E];rfl
  rw[hz];refine ao @e (JJ ?_);refine aj n.eqs (λj (_:Unit)=>⟨[(1,.int .i64 k),(2,.ref (cE p)),(4,.ptr 0 1 0 0),(5,.ptr 1 1 0 0),(6,.sl ((dQ n).map gG)),(8,.int .i64 j)],[⟨.loc,3,[mI fk]⟩,⟨.loc,5,[fe n]⟩]⟩) (λj r _=>bk (w9 p k) 0 n.eqs=bk (w9 p k) j r) () (by decide) CT rfl (λj x r _ d U Z E=>?_) (λj _ e E=>?_)
  .rw[bk]at E;have e3:=e3' j d;rw[show n.eqs.getD j default=x from by rw[BY,U];rfl]at e3;have hf:w9 p k j x=if F5 p k j x=0 then fk else(k,j,F5 p k j x):=rfl;refine ao (cL @iI d e3) (bV (λhn=>?_) (JJ (λhn=>?_)));all_goals try exact⟨(),CT,by rw[E,hf,gr hn,gr rfl]⟩
   refine _Q ?_;have hq:w9 p k j x=((k:Int),(j:Int),F5 p k j x):=by rw[hf,ba hn]
   have bP:¬w9 p k j x=fk:=by rw[hq];intro hh;exact hn (C2 (λf:L6=>f.2.2) hh)
   rw[ba bP]at E;rw[E,gr bP,hq];rfl
  .have E:bk (w9 p k) 0 n.eqs=fk:=E;rw[E,ba (λhh=>hh rfl)];refine ao @e (JJ ?_);refine aj (n.outs++n.vars) (λj (_:Unit)=>⟨[(1,.int .i64 k),(4,.ptr 0 1 0 0),(5,.ptr 1 1 0 0),(6,.sl ((dQ n).map gG)),(10,.int .i64 (n.ins.length+j))],[⟨.loc,3,[mI fk]⟩,⟨.loc,5,[fe n]⟩]⟩) (λj r _=>(n.outs++n.vars).any (λd=>gJ n d.name n.eqs.length==0)=r.any (λd=>gJ n d.name n.eqs.length==0)) () (by decide) (CF (bV @Int.natCast_zero @Int.add_zero)) rfl (λj x r _ d U Z E=>?_) (λj _ e E=>?_)
   .rw[Hl]at E;have e4:=e4 x.name;have Ll:(dQ n)[n.ins.length+j]? =some x:=by rw[dQ,AT,IF (by omega),V5];exact U
    have hx3:=ag gG Ll;have d2:=(pc.1 Ll).1;have d3:(n.ins.length:Int)+j<(dQ n).length:=by omega
    have hj:((n.ins.length:Int)+j).toNat=n.ins.length+j:=by omega
    refine ao (fF @iI d3 hx3 hj e4) (bV ?_ (JJ ?_))<;>intros;all_goals first
     |exact⟨(),(CF @Int.add_assoc),by rw[E];simp_all⟩
     |(refine _Q ?_
       rw[E,gr (by simp_all)];rfl)
   .have E:_=false:=E;have d3:¬(n.ins.length:Int)+j<(dQ n).length:=by
     have:(dQ n).length=n.ins.length+(n.outs++n.vars).length:=by simp[dQ]
     omega
    rw[E];refine ao @d3 (JJ ?_);all_goals rfl
def RW:Ab->Prop×J:=bJ bA λp=>(bF p=true,.agg (mI (g9 p)))
def abB(p):=show RW [.agg (cE p)]=_ from aI dY _ p
theorem O1(f:L6):Q2 true [0,0,0] (.agg [.int .i64 f.1,.int .i64 f.2.1,.int .i64 f.2.2]) (.agg [.int .i64 0,.int .i64 0,.int .i64 0])=(True,.bool (!decide (f=fk))):=by rw[qi,iW];obtain⟨a,b,c⟩:=f;simp[fk]
theorem aIU:aJ Tryz.prog 167 RW:=by
 refine aJ.mS (ps:=[(185,Se),(102,w7),(186,P3)]) (I:=[]) ⟨aIP,fW,aIT,BB⟩ trivial aG9 λp h=>?_;try dsimp only at h
 have hP:bF p=true:=h;have Y:=abJ p;rw[lU hP]at Y;have Ua:=(fE hP).1;have e2:∀i:Nat,i<p.nodes.length->P3 [.agg (cE p),.int .i64 i]=(True,.agg (mI (qR p i (nodeAt p i)))):=λi hi=>by have:=afO p i;rw[lU (show R6 p i from⟨hP,by omega,by omega⟩)]at this;simp only[GC]at this;exact this
 by_cases c1:kL p=0;rotate_left
 .have hz:g9 p=flt 0 (-1) (kL p):=by rw[g9,gr c1];rfl
  rw[hz];exact ao (fj @pD.eq_1 @iI @bA.eq_1 Y) zz;all_goals rfl
 have hz:g9 p=bk (qR p) 0 p.nodes:=by rw[g9,ba (λhh=>hh c1)]
 rw[hz];refine ao (fj @pD.eq_1 @bA.eq_1 Y c1) (JJ ?_);refine aj p.nodes (λj (_:Unit)=>⟨[(1,.ref (cE p)),(2,.ptr 0 1 0 0),(4,.int .i64 j)],[⟨.loc,3,[mI fk]⟩]⟩) (λj r _=>bk (qR p) 0 p.nodes=bk (qR p) j r) () (by decide) CT rfl (λj x r _ d U Z E=>?_) (λj _ e E=>?_)
 .rw[bk]at E;have e3:=e2 j d;have hn:nodeAt p j=x:=by unfold nodeAt;rw[BY,U];rfl
  rw[hn]at e3;generalize qR p j x=f at*;by_cases hf:f=fk
  .rw[gr hf]at E;have Z:=ON hf;refine ao (fj d e3 @O1 Z) (JJ ?_);all_goals exact⟨(),CT,E⟩
  .rw[ba hf]at E;have Z:=Z7 hf;rw[E];exact ao (fj d e3 @O1 Z) zz;all_goals rfl
 .have E:bk (qR p) 0 p.nodes=fk:=E;rw[E];refine ao @e (JJ ?_);all_goals rfl
end
end Go.Proofs.YtldnkkkooabaeaaGreat

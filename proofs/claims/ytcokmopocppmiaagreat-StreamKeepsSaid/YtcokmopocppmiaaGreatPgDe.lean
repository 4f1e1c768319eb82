/- Programs: types: the walk (16), equations, programs. -/
import Derived.Test.YtcokmopocppmiaaGreatPgDc
set_option maxHeartbeats 2000000
set_option linter.all false
set_option maxRecDepth 20000
namespace Go.Proofs.YtcokmopocppmiaaGreat
open Go.Nk
theorem kL{e}(h:er e=true):(ax e).length<300:=by simp only[er,Bool.and_eq_true,decide_eq_true_eq]at h;have:=jm e;omega
theorem ajQ{p}{i:Int}{e}(h:yx p i e):zu 300 [.agg (bT p),.int .i64 i,.agg (cA e)]=(True,.cy [.agg (cK ((oV p i.toNat e).getD ⟨0,0,0⟩)),.bool (oV p i.toNat e).isSome]):=by rw[OM,eq_true (show yx p i e/\(ax e).length<300 from⟨h,kL h.2.2.1⟩)]
theorem abJ{p}{i:Int}{e}(h:yx p i e):G9 300 [.agg (bT p),.int .i64 i,.agg (cA e)]=(True,.cy [.sl (((iu p i.toNat e).getD []).map cK),.bool (iu p i.toNat e).isSome]):=by rw[OO,eq_true (show yx p i e/\(ax e).length<300+1 from⟨h,by have:=kL h.2.2.1;omega⟩)]
def jkE:Option (Ty⊕rN)->List ak
 |none=>[]
 |some (.inl t)=>[⟨.loc,3,[cK t]⟩]
 |some (.inr d)=>[⟨.loc,6,[fR d]⟩]
theorem tU:jkE none=[]:=rfl
theorem sL(t:Ty):jkE (some (.inl t))=[⟨.loc,3,[[.int .i64 t.k,.int .i64 t.e,.int .i64 t.n]]⟩]:=rfl
theorem qG(d:rN):jkE (some (.inr d))=[⟨.loc,6,[[.str d.name,.int .i64 d.ty.k,.int .i64 d.ty.e,.int .i64 d.ty.n,.str d.on,.str d.ct]]⟩]:=rfl
def Dp(n:kZ)(w:List Ty)(names:List (List UInt8)):Bool:=(w.zip names).all λy=>decide (((eT n y.2).getD default).ty=y.1)
theorem OP{n}{t}{w}{s}{r}:Dp n (t::w) (s::r)=(mT ((eT n s).getD default).ty t&&Dp n w r):=by rw[hZ];rfl
def okQ(p:cY)(i:Int)(x:wq):Prop:=yx p i x.e/\x.names.length<=20
noncomputable def Ha:List DV->Prop×DV:=eR bj eI Mw λp i x=>(okQ p i x,.bool (AR p i.toNat x))
theorem XX(p)(i:Int)(x):Ha [.agg (bT p),.int .i64 i,.agg (kO x)]=(okQ p i x,.bool (AR p i.toNat x)):=bz dp b6 Vi _ p i x
theorem an2:aF Tryz.prog 164 Ha:=by
 refine aF.uR (ps:=[(154,G9 300),(174,M9),(99,zu 300),(128,vt)]) (hs:=[]) ⟨XY 300 (Oz 300),tV,Oz 300,fI,trivial⟩ trivial My λp i x h=> ?_;obtain⟨hX,hxn⟩:=h;dsimp only;have e1:=abJ hX;have e2:=ajQ hX;have hP:=hX.1.1;have AG:=hX.self.1;have hlen:∀t,iu p i.toNat x.e=some t->t.length=x.e.ar.length:=λt ht=>(yF ht).1;obtain⟨n,rfl,hk,hnd,hs,Rc⟩:=Ew hX.1;simp only[Int.toNat_natCast]at*;have si:(n:Int)<p.nodes.length:=by omega
 simp only[ag x.e]at e1 e2;obtain⟨p1,p2,p3,p4,p5,p6,p7⟩:=dF AG;by_cases Vd:x.e.kind=13
 ·have hz:AR p n x=match (match iu p n x.e with|none=>none|some t=>(ra p x.e t).map λi=>(nodeAt p i).outs.map rN.ty)with
   |none=>false
   |some w=>w.length==x.names.length&&Dp (nodeAt p n) w x.names:=by
   unfold AR Hb;rw[if_pos Vd];rfl
  rw[hz];rw[Vd]at e1;cases hsb:iu p n x.e with
  |none=>
   rw[hsb]at e1;dsimp only[Option.isSome,Option.getD]at e1;exact aq (A5 @gM.eq_1 @Mw.eq_1 @bj.eq_1 Vd e1) zz;all_goals rfl
  |some t=>
  rw[hsb]at e1;dsimp only[Option.isSome,Option.getD]at e1;have htl:=hlen t hsb;have e4:=OQ p x.e t;rw[eq_true (show bx p=true/\(x.e.n=0\/x.e.n=1)/\t.length<=1000 from⟨hP,(p5 Vd).2.2,by omega⟩)]at e4;simp only[ag x.e,Vd]at e4;cases hc:ra p x.e t with
  |none=>
   simp only[hc,Option.map_none];rw[hc]at e4;dsimp only[Option.isSome,Option.getD]at e4;exact aq (A6 @gM.eq_1 @Mw.eq_1 @bj.eq_1 Vd e1 e4) zz;all_goals rfl
  |some m=>
  simp only[hc,Option.map_some];rw[hc]at e4;dsimp only[Option.isSome,Option.getD]at e4;obtain⟨q1,_⟩:=AU hc;obtain⟨g,hg⟩:=xD q1;have hmn:=af ef hg;rw[fa hg];have hml:=(List.getElem?_eq_some_iff.1 hg).1;have JP:(m:Int)<p.nodes.length:=by omega
  have hgs:=(eO hP).2 g (List.mem_of_getElem? hg);obtain⟨_,l2,_⟩:=cO hgs;generalize hW:g.outs.map rN.ty=W at*;refine aq (A6 @gM.eq_1 @Mw.eq_1 @bj.eq_1 Vd e1 e4) (JJ ?_);refine ai g.outs (λk (o:List Ty)=>⟨[(1,.int .i64 n),(3,.ref (bT p)),(5,.ref (kO x)),(7,.own 0 o.length 0 o.length),(10,.int .i64 m),(12,.int .i64 k)],[⟨.aN,3,o.map cK⟩]⟩) (λk r o=>o.length=k/\o++r.map rN.ty=W) [] (by decide) CT ⟨rfl,hW⟩ (λk d r o dk hx hd hr=> ?_) (λk w ek hr=> ?_)
  ·obtain⟨r1,r2⟩:=hr;have gd:=af fR hx;refine aq (A4 hmn JP dk gd) (JJ ?_);all_goals first
    |exact⟨o++[d.ty],(CF @List.map_append.{0,0}),by simp[r1],by simpa using r2⟩
  obtain⟨r1,r2⟩:=hr;simp only[List.map_nil,List.append_nil]at r2;rw[<-r2];by_cases cl:w.length=x.names.length;rotate_left
  ·have hb:(w.length==x.names.length)=false:=by simpa using cl
   have cl':¬(w.length:Int)=x.names.length:=by omega
   rw[hb];have ek2:¬(k:Int)<g.outs.length:=by omega
   exact aq (A4 @aj hmn JP ek2) zz;all_goals rfl
  have hb:(w.length==x.names.length)=true:=by simpa using cl
  have cl':(w.length:Int)=x.names.length:=by omega
  rw[hb];have ek2:¬(k:Int)<g.outs.length:=by omega
  refine aq (A5 @aj hmn JP ek2 cl') (JJ ?_);refine ai w (λk (jk:Option (Ty⊕rN))=>⟨[(1,.int .i64 n),(3,.ref (bT p)),(5,.ref (kO x)),(7,.own 0 w.length 0 w.length),(15,.int .i64 k)],[⟨.aN,3,w.map cK⟩]++jkE jk⟩) (λk r _=>Dp (nodeAt p n) w x.names=Dp (nodeAt p n) r (x.names.drop k)) none (by decide) (CF (A3 @tU @List.append_nil.{0} cl)) rfl (λk t r jk d hx hd hr=> ?_) (λk jk e hr=> ?_)
  ·have dk:k<x.names.length:=by omega
   obtain⟨s1,q1,q2⟩:=dP x.names dk;rw[q2,OP]at hr;have e3:=nR (nodeAt p n) s1;rw[eq_true hs]at e3;have g1:=fk q1;have g2:=af cK hx;generalize (eT (nodeAt p n) s1).getD default=dd at*;generalize (eT (nodeAt p n) s1).isSome=db at*;obtain⟨d1,⟨d2,d3,d4⟩,d5,d6⟩:=dd;obtain⟨t1,t2,t3⟩:=t;dsimp only at hr;cases hq:mT ⟨d2,d3,d4⟩ ⟨t1,t2,t3⟩<;>rw[hq]at hr
   ·rcases jk with _|(⟨j1,j2,j3⟩|⟨j1,⟨j2,j3,j4⟩,j5,j6⟩);all_goals(refine aq (A9 @aj hnd si e3 g1 g2 d dk (A5 hq @oO @tU @sL @qG)) (JJ ?_))
    all_goals(rw[hr];rfl)
   ·rcases jk with _|(⟨j1,j2,j3⟩|⟨j1,⟨j2,j3,j4⟩,j5,j6⟩)
    ·refine aq (A9 @aj hnd si e3 g1 g2 d dk (A3 hq @oO @tU)) (JJ ?_);exact⟨some (.inr ⟨d1,⟨d2,d3,d4⟩,d5,d6⟩),(CF @qG),hr⟩
    ·refine aq (A9 @aj hnd si e3 g1 g2 d dk (A3 hq @oO @sL)) (JJ ?_);exact⟨some (.inl ⟨j1,j2,j3⟩),(CF @sL),hr⟩
    ·refine aq (A9 @aj hnd si e3 g1 g2 d dk (A3 hq @oO @qG)) (JJ ?_);exact⟨some (.inr ⟨j1,⟨j2,j3,j4⟩,j5,j6⟩),(CF @qG),hr⟩
  ·have hr:Dp (nodeAt p n) w x.names=true:=by rw[hr];cases x.names.drop k<;>rfl
   rw[hr];rcases jk with _|(⟨j1,j2,j3⟩|⟨j1,⟨j2,j3,j4⟩,j5,j6⟩);all_goals(exact aq (A4 e @tU @sL @qG) zz)
   all_goals rfl
 ·have hz:AR p n x=match (oV p n x.e).map (λt=>[t])with
   |none=>false
   |some w=>w.length==x.names.length&&Dp (nodeAt p n) w x.names:=by
   unfold AR Hb;rw[if_neg Vd];rfl
  rw[hz];cases ho:oV p n x.e with
  |none=>
   rw[ho]at e2;dsimp only[Option.isSome,Option.getD]at e2;exact aq (A4 @gM.eq_1 @Mw.eq_1 @bj.eq_1 e2) zz;all_goals rfl
  |some t=>
  rw[ho]at e2;dsimp only[Option.isSome,Option.getD,Option.map]at e2|-;obtain⟨t1,t2,t3⟩:=t;by_cases cl:1=x.names.length;rotate_left
  ·have hb:([(⟨t1,t2,t3⟩:Ty)].length==x.names.length)=false:=by simpa using cl
   have cl':¬(1:Int)=x.names.length:=by omega
   rw[hb];exact aq (A5 @gM.eq_1 @Mw.eq_1 @bj.eq_1 @aj e2) zz;all_goals rfl
  have hb:([(⟨t1,t2,t3⟩:Ty)].length==x.names.length)=true:=by simpa using cl
  have cl':(x.names.length:Int)=1:=by omega
  rw[hb];refine aq (A6 @gM.eq_1 @Mw.eq_1 @bj.eq_1 @aj e2 cl') (JJ (λhn=> ?_));generalize hw:[(⟨t1,t2,t3⟩:Ty)]=w at*;have U5:w.length=1:=by rw[<-hw];rfl
  have hwm:w.map cK=[[.int .i64 t1,.int .i64 t2,.int .i64 t3]]:=by rw[<-hw];rfl
  refine ai w (λk (jk:Option (Ty⊕rN))=>⟨[(1,.int .i64 n),(3,.ref (bT p)),(5,.ref (kO x)),(7,.own 0 w.length 0 w.length),(15,.int .i64 k)],[⟨.aN,3,w.map cK⟩]++jkE jk⟩) (λk r _=>Dp (nodeAt p n) w x.names=Dp (nodeAt p n) r (x.names.drop k)) (some (.inl ⟨t1,t2,t3⟩)) (by decide) (CF (A5 @sL U5 hwm @List.cons_append.{0} @List.nil_append.{0})) rfl (λk t r jk d hx hd hr=> ?_) (λk jk e hr=> ?_)
  ·have dk:k<x.names.length:=by omega
   obtain⟨s1,q1,q2⟩:=dP x.names dk;rw[q2,OP]at hr;have e3:=nR (nodeAt p n) s1;rw[eq_true hs]at e3;have g1:=fk q1;have g2:=af cK hx;generalize (eT (nodeAt p n) s1).getD default=dd at*;generalize (eT (nodeAt p n) s1).isSome=db at*;obtain⟨d1,⟨d2,d3,d4⟩,d5,d6⟩:=dd;obtain⟨t1,t2,t3⟩:=t;dsimp only at hr;cases hq:mT ⟨d2,d3,d4⟩ ⟨t1,t2,t3⟩<;>rw[hq]at hr
   ·rcases jk with _|(⟨j1,j2,j3⟩|⟨j1,⟨j2,j3,j4⟩,j5,j6⟩);all_goals(refine aq (A9 @aj hnd si e3 g1 g2 d dk (A5 hq @oO @tU @sL @qG)) (JJ ?_))
    all_goals(rw[hr];rfl)
   ·rcases jk with _|(⟨j1,j2,j3⟩|⟨j1,⟨j2,j3,j4⟩,j5,j6⟩)
    ·refine aq (A9 @aj hnd si e3 g1 g2 d dk (A3 hq @oO @tU)) (JJ ?_);exact⟨some (.inr ⟨d1,⟨d2,d3,d4⟩,d5,d6⟩),(CF @qG),hr⟩
    ·refine aq (A9 @aj hnd si e3 g1 g2 d dk (A3 hq @oO @sL)) (JJ ?_);exact⟨some (.inl ⟨j1,j2,j3⟩),(CF @sL),hr⟩
    ·refine aq (A9 @aj hnd si e3 g1 g2 d dk (A3 hq @oO @qG)) (JJ ?_);exact⟨some (.inr ⟨j1,⟨j2,j3,j4⟩,j5,j6⟩),(CF @qG),hr⟩
  ·have hr:Dp (nodeAt p n) w x.names=true:=by rw[hr];cases x.names.drop k<;>rfl
   rw[hr];rcases jk with _|(⟨j1,j2,j3⟩|⟨j1,⟨j2,j3,j4⟩,j5,j6⟩);all_goals(exact aq (A4 e @tU @sL @qG) zz)
   all_goals rfl
theorem SG{p:cY}(h:fX p=eu):kj p=0/\aX (pq p) 0 p.nodes=eu:=by
 unfold fX at h;split at h
 ·rename_i c;simp only[eu,Prod.mk.injEq]at h;exact absurd h.2.2 c
 ·rename_i c;exact⟨by simpa using c,h⟩
theorem aj6{p}{i}{n:kZ}(h:pq p i n=eu):aX (vu p i) 0 n.eqs=eu:=by
 unfold pq at h;split at h
 ·simp[eu]at h
 ·split at h
  ·rename_i c;exact absurd h c
  ·rename_i c;simpa using c
theorem aj5{p:cY}(hP:bx p=true)(h:fX p=eu){i:Nat}{n:kZ}{x:wq}(hn:p.nodes[i]? =some n)(hx:x∈n.eqs):okQ p i x:=by
 obtain⟨h1,h2⟩:=SG h;have h3:=kn h2 i n hn;rw[Nat.zero_add]at h3;have h4:=aj6 h3;obtain⟨k,hk⟩:=List.getElem?_of_mem hx;have h5:=kn h4 k x hk;rw[Nat.zero_add]at h5;have hm:=List.mem_of_getElem? hn;obtain⟨_,_,_,_,q5,_⟩:=mz h1;have k5:=q5 n hm;simp only[nO,Bool.and_eq_true,List.all_eq_true]at k5;have k6:=k5.1.1.2 x hx;simp only[Et,Bool.and_eq_true]at k6;have hr:=Hc k6.1.2;obtain⟨_,_,_,_,_,l6⟩:=cO ((eO hP).2 n hm);have hil:=(List.getElem?_eq_some_iff.1 hn).1;have he:eqE p i k x=0:=by
  by_cases c:eqE p i k x=0
  ·exact c
  ·rw[vu,if_neg c]at h5;exact absurd (congrArg (λf:Lp=>f.2.2) h5) c
 have hpt:(ax x.e).all (oy p i)=true:=by
  unfold eqE at he;split at he
  ·rename_i c;exact absurd he c
  ·split at he
   ·assumption
   ·cases he
 refine⟨⟨⟨hP,by omega,by omega⟩,h1,(l6 x hx).2,λy hy=>⟨hr y hy,?_⟩⟩,(l6 x hx).1⟩;rw[Int.toNat_natCast];exact List.all_eq_true.1 hpt y hy
noncomputable def OL:List DV->Prop×DV:=bB bj λp=>(bx p=true,.agg (lV (iV p)))
def XW(p):=show OL [.agg (bT p)]=_ from aH dp _ p
theorem an3(p:cY)(n)(d:rN):XZ p n d=(d.on==[]||mT ((eT n d.on).getD default).ty (fA p.en d.ct).1):=by rw[hZ];rfl
theorem Lo{a b c}{f:Lp}(h:f=(a,b,c)):a=f.1/\b=f.2.1/\c=f.2.2:=by subst h;exact⟨rfl,rfl,rfl⟩
theorem abL{p:cY}(h:fX p=eu):iV p=aX (qh p) 0 p.nodes:=by unfold iV;rw[if_neg (by rw[h];simp)]
theorem SF{p}(h:¬fX p=eu):iV p=fX p:=by unfold iV;rw[if_pos h]
theorem CG:aF Tryz.prog 146 OL:=by
 refine aF.mo (ps:=[(163,OS),(147,AQ),(128,vt),(97,xC),(95,vr),(164,Ha)]) (hs:=[]) ⟨CH,gF,fI,cG,fi,an2,trivial⟩ trivial Ey λp h=> ?_;dsimp only;have hP:bx p=true:=h;have hE:=tR hP;have e1:=X0 p;rw[eq_true hP]at e1;obtain⟨Rc,zS⟩:=eO hP;by_cases c1:fX p=eu;rotate_left
 ·have hd:decide (fX p=eu)=false:=decide_eq_false c1;rw[SF c1];generalize fX p=f at*;exact aq (A5 @nS.eq_1 @bj.eq_1 e1 @Ms hd) zz;all_goals rfl
 rw[abL c1];have hQ:=λ(i:Nat) (n:kZ) (x:wq) (hn:p.nodes[i]? =some n) (hx:x∈n.eqs)=>aj5 hP c1 hn hx;have e9:∀(i:Nat) (n:kZ) (x:wq),p.nodes[i]? =some n->x∈n.eqs->Ha [.agg (bT p),.int .i64 i,.agg (kO x)]=(True,.bool (AR p i x)):=λi n x hn hx=>by have:=XX p i x;rw[eq_true (hQ i n x hn hx),Int.toNat_natCast]at this;exact this
 have hd:decide (fX p=eu)=true:=decide_eq_true c1;refine aq (A5 @nS.eq_1 @bj.eq_1 e1 @Ms hd) (JJ ?_);refine ai p.nodes (λj (_:Unit)=>⟨[(1,.ref (bT p)),(2,.ptr 0 1 0 0),(4,.int .i64 j)],[⟨.loc,3,[lV eu]⟩,⟨.loc,3,[lV (fX p)]⟩]⟩) (λj r _=>aX (qh p) 0 p.nodes=aX (qh p) j r) () (by decide) CT rfl (λj n r _ d hx hd hr=> ?_) (λj _ e hr=> ?_);rotate_left
 ·have hr:aX (qh p) 0 p.nodes=eu:=hr;rw[hr];refine aq @e (JJ ?_);all_goals rfl
 rw[aX]at hr;have M7:=zS n (List.mem_of_getElem? hx);have hl:=BU M7;have e2:=s8 n;rw[eq_true M7]at e2;have gn:=af ef hx;obtain⟨_,_,_,l4,_,_⟩:=cO M7;refine aq (A3 d gn e2) (JJ ?_);refine ai (dA n) (λk (_:Unit)=>⟨[(1,.ref (bT p)),(2,.ptr 0 1 0 0),(4,.int .i64 j),(5,.sl ((dA n).map fR)),(6,.int .i64 k)],[⟨.loc,3,[lV eu]⟩,⟨.loc,3,[lV (fX p)]⟩]⟩) (λk q _=>(dA n).all (XZ p n)=q.all (XZ p n)) () (by decide) CT rfl (λk x q _ dk RG hdk hq=> ?_) (λk _ ek hq=> ?_)
 ·rw[List.all_cons,an3]at hq;have gx:=af fR RG;have e3:=nR n x.on;rw[eq_true M7]at e3;have e4:=nh p.en x.ct;rw[eq_true hE]at e4;have hz:(dA n).all (XZ p n)=false->aX (qh p) 0 p.nodes=((j:Int),-1,7):=λhf=>by
   have hT:qh p j n=((j:Int),-1,7):=by unfold qh;rw[hf];rfl
   rw[hr,hT,if_neg (by simp[eu])]
  obtain⟨x1,⟨x2,x3,x4⟩,x5,x6⟩:=x;dsimp only at hq e3 e4;by_cases BO:x5=[]
  ·refine aq (A3 dk gx BO) (JJ ?_);all_goals first
    |exact⟨(),CT,by rw[hq,BO];rfl⟩
  have cD:(x5==[])=false:=by simpa using BO
  rw[cD,Bool.false_or]at hq;generalize (eT n x5).getD default=dd at*;generalize (eT n x5).isSome=db at*;generalize fA p.en x6=aa at*;obtain⟨d1,⟨d2,d3,d4⟩,d5,d6⟩:=dd;obtain⟨⟨a1,a2,a3⟩,a4,a5⟩:=aa;dsimp only at hq e3 e4;cases hc:mT ⟨d2,d3,d4⟩ ⟨a1,a2,a3⟩<;>rw[hc]at hq;all_goals(refine aq (A9 @gL d gn dk gx e3 e4 hc @oO) (A2 ?_ (JJ ?_))<;>intros)
  all_goals first
   |exact absurd (by assumption) BO
   |exact Lo (hz hq)
   |exact⟨(),CT,hq⟩
 have hq:(dA n).all (XZ p n)=true:=hq;have hT:qh p j n=aX (λk x=>if AR p j x then eu else((j:Int),(k:Int),7)) 0 n.eqs:=by unfold qh;rw[hq];rfl
 rw[hT]at hr;refine aq @ek (JJ ?_);refine ai n.eqs (λk (_:Unit)=>⟨[(1,.ref (bT p)),(2,.ptr 0 1 0 0),(4,.int .i64 j),(12,.int .i64 k)],[⟨.loc,3,[lV eu]⟩,⟨.loc,3,[lV (fX p)]⟩]⟩) (λk q _=>aX (λk x=>if AR p j x then eu else((j:Int),(k:Int),7)) 0 n.eqs=aX (λk x=>if AR p j x then eu else((j:Int),(k:Int),7)) k q) () (by decide) CT rfl (λk x q _ dk RG hdk Ev=> ?_) (λk _ ek2 Ev=> ?_)
 ·rw[aX]at Ev;have e5:=e9 j n x hx (List.mem_of_getElem? RG);have gx:=af kO RG;cases hc:AR p j x<;>rw[hc]at Ev e5
  ·have h7:¬(((j:Int),(k:Int),(7:Int)):Lp)=eu:=by simp[eu]
   simp only[Bool.false_eq_true,if_false]at Ev;rw[if_neg h7]at Ev;rw[Ev,if_neg h7]at hr;refine aq (A6 @gL d gn dk gx e5) (JJ ?_);all_goals exact Lo hr
  ·simp only[if_true]at Ev;refine aq (A5 d gn dk gx e5) (JJ ?_);all_goals exact⟨(),CT,Ev⟩
 ·have Ev:_=eu:=Ev;rw[Ev,if_pos rfl]at hr;refine aq (A3 d gn ek2) (JJ ?_);all_goals exact⟨(),CT,hr⟩
end Go.Proofs.YtcokmopocppmiaaGreat

/- Programs: types: the walk (16), equations, programs. -/
import Derived.Test.YtldnkkkooabaeaaGreatPgDc
set_option maxHeartbeats 2000000
set_option linter.all false
set_option maxRecDepth 20000
namespace Go.Proofs.YtldnkkkooabaeaaGreat
open Go.Nk
theorem lZ{e:Ex}(h:eG e=true):(az e).length<300:=by simp only[eG,ab,ir]at h;have:=kf e;omega
theorem _t{p:fc}{i:Int}{e:Ex}(h:E5 p i e):A9 300 [.agg (cE p),.int .i64 i,.agg (cO e)]=(True,.b9 [.agg (dE ((rF p i.toNat e).getD ⟨0,0,0⟩)),.bool (rF p i.toNat e).isSome]):=by rw[RS,lU (show E5 p i e/\(az e).length<300 from⟨h,lZ h.2.2.1⟩)]
theorem afB{p:fc}{i:Int}{e:Ex}(h:E5 p i e):Js 300 [.agg (cE p),.int .i64 i,.agg (cO e)]=(True,.b9 [.sl (((jW p i.toNat e).getD []).map dE),.bool (jW p i.toNat e).isSome]):=by rw[aAP,lU (show E5 p i e/\(az e).length<300+1 from⟨h,by have:=lZ h.2.2.1;omega⟩)]
def f7:Option (Ty⊕tN)->List ae
 |none=>[]
 |some (.inl t)=>[⟨.loc,3,[dE t]⟩]
 |some (.inr d)=>[⟨.loc,6,[gG d]⟩]
theorem vA:f7 none=[]:=rfl
theorem uL(t:Ty):f7 (some (.inl t))=[⟨.loc,3,[[.int .i64 t.k,.int .i64 t.e,.int .i64 t.n]]⟩]:=rfl
theorem sW(d:tN):f7 (some (.inr d))=[⟨.loc,6,[[.str d.name,.int .i64 d.ty.k,.int .i64 d.ty.e,.int .i64 d.ty.n,.str d.on,.str d.ct]]⟩]:=rfl
def E7(n:kY)(w:List Ty)(names:BS):Bool:=(w.zip names).all λy=>decide (((fv n y.2).getD default).ty=y.1)
theorem aAR{n:kY}{t:Ty}{w:List Ty}{s:B3}{r:BS}:E7 n (t::w) (s::r)=(ow ((fv n s).getD default).ty t&&E7 n w r):=by rw[iW];rfl
def vQ(p:fc)(i:Int)(x:xY):Prop:=E5 p i x.e/\x.names.length<=20
noncomputable def Jt:Ab->Prop×J:=fp bA eI Lq λp i x=>(vQ p i x,.bool (Cu p i.toNat x))
theorem aby(p:fc)(i:Int)(x:xY):Jt [.agg (cE p),.int .i64 i,.agg (me x)]=(vQ p i x,.bool (Cu p i.toNat x)):=bW dY cF YC _ p i x
theorem as1:aJ Tryz.prog 168 Jt:=by
 refine aJ.zP (ps:=[(161,Js 300),(178,PZ),(106,A9 300),(132,w8)]) (I:=[]) ⟨abz 300 (RH 300),aAO,RH 300,gO,BB⟩ trivial aHa λp i x h=>?_;obtain⟨hX,_N⟩:=h;dsimp only;have Y:=afB hX;have e2:=_t hX;have hP:=hX.1.1;have Cm:=hX.self.1;have hlen:∀t,jW p i.toNat x.e=some t->t.length=x.e.ar.length:=λt ht=>(Am ht).1;obtain⟨n,rfl,hk,hnd,I,Ua⟩:=Gv hX.1;simp only[GC]at*;have yK:(n:Int)<p.nodes.length:=by omega
 simp only[ai x.e]at Y e2;obtain⟨p1,p2,p3,p4,p5,p6,p7⟩:=dW Cm;by_cases Yy:x.e.kind=13
 .have hz:Cu p n x=match (match jW p n x.e with|none=>none|some t=>(vC p x.e t).map λi=>(nodeAt p i).outs.map tN.ty)with
   |none=>false
   |some w=>w.length==x.names.length&&E7 (nodeAt p n) w x.names:=by
   unfold Cu Ju;rw[gr Yy];rfl
  rw[hz];rw[Yy]at Y;cases _u:jW p n x.e with
  |none=>
   rw[_u]at Y;dsimp only[Option.isSome,Option.getD]at Y;exact ao (fF @iJ.eq_1 @Lq.eq_1 @bA.eq_1 Yy Y) zz;all_goals rfl
  |some t=>
  rw[_u]at Y;dsimp only[Option.isSome,Option.getD]at Y;have QM:=hlen t _u;have e4:=aAN p x.e t;rw[lU (show bF p=true/\(x.e.n=0\/x.e.n=1)/\t.length<=1000 from⟨hP,(p5 Yy).2.2,by omega⟩)]at e4;simp only[ai x.e,Yy]at e4;cases hc:vC p x.e t with
  |none=>
   simp only[hc,Option.map_none];rw[hc]at e4;dsimp only[Option.isSome,Option.getD]at e4;exact ao (jg @iJ.eq_1 @Lq.eq_1 @bA.eq_1 Yy Y e4) zz;all_goals rfl
  |some m=>
  simp only[hc,Ka];rw[hc]at e4;dsimp only[Option.isSome,Option.getD]at e4;obtain⟨q1,_⟩:=Cv hc;obtain⟨g,hg⟩:=zd q1;have Hf:=ag fe hg;rw[fU hg];have _o:=(pc.1 hg).1;have L7:(m:Int)<p.nodes.length:=by omega
  have Xe:=(fE hP).2 g (ed hg);obtain⟨_,l2,_⟩:=dz Xe;generalize hW:g.outs.map tN.ty=W at*;refine ao (jg @iJ.eq_1 @Lq.eq_1 @bA.eq_1 Yy Y e4) (JJ ?_);refine aj g.outs (λk (o:List Ty)=>⟨[(1,.int .i64 n),(3,.ref (cE p)),(5,.ref (me x)),(7,.own 0 o.length 0 o.length),(10,.int .i64 m),(12,.int .i64 k)],[⟨.aV,3,o.map dE⟩]⟩) (λk r o=>o.length=k/\o++r.map tN.ty=W) [] (by decide) CT ⟨rfl,hW⟩ (λk d r o dk U Z E=>?_) (λk w ek E=>?_)
  .obtain⟨r1,r2⟩:=E;have gd:=ag gG U;refine ao (fj Hf L7 dk gd) (JJ ?_);all_goals first
    |exact⟨o++[d.ty],(CF @IN.{0,0}),by simp[r1],by simpa using r2⟩
  obtain⟨r1,r2⟩:=E;simp only[DD,xz]at r2;rw[<-r2];by_cases cl:w.length=x.names.length;rotate_left
  .have hb:(w.length==x.names.length)=false:=by simpa using cl
   have fL:¬(w.length:Int)=x.names.length:=by omega
   rw[hb];have Tn:¬(k:Int)<g.outs.length:=by omega
   exact ao (fj @ak Hf L7 Tn) zz;all_goals rfl
  have hb:(w.length==x.names.length)=true:=by simpa using cl
  have fL:(w.length:Int)=x.names.length:=by omega
  rw[hb];have Tn:¬(k:Int)<g.outs.length:=by omega
  refine ao (fF @ak Hf L7 Tn fL) (JJ ?_);refine aj w (λk (jk:Option (Ty⊕tN))=>⟨[(1,.int .i64 n),(3,.ref (cE p)),(5,.ref (me x)),(7,.own 0 w.length 0 w.length),(15,.int .i64 k)],[⟨.aV,3,w.map dE⟩]++f7 jk⟩) (λk r _=>E7 (nodeAt p n) w x.names=E7 (nodeAt p n) r (x.names.drop k)) none (by decide) (CF (cL @vA @xz.{0} cl)) rfl (λk t r jk d U Z E=>?_) (λk jk e E=>?_)
  .have dk:k<x.names.length:=by omega
   obtain⟨s1,q1,q2⟩:=eE x.names dk;rw[q2,aAR]at E;have e3:=pA (nodeAt p n) s1;rw[lU I]at e3;have g1:=fN q1;have g2:=ag dE U;generalize (fv (nodeAt p n) s1).getD default=dd at*;generalize (fv (nodeAt p n) s1).isSome=aAT at*;obtain⟨d1,⟨d2,d3,d4⟩,d5,d6⟩:=dd;obtain⟨t1,t2,t3⟩:=t;dsimp only at E;cases hq:ow ⟨d2,d3,d4⟩ ⟨t1,t2,t3⟩<;>rw[hq]at E
   .rcases jk with _|(⟨j1,j2,j3⟩|⟨j1,⟨j2,j3,j4⟩,j5,j6⟩);all_goals(refine ao (ey @ak hnd yK e3 g1 g2 d dk (fF hq @qi @vA @uL @sW)) (JJ ?_))
    all_goals(rw[E];rfl)
   .rcases jk with _|(⟨j1,j2,j3⟩|⟨j1,⟨j2,j3,j4⟩,j5,j6⟩)
    .refine ao (ey @ak hnd yK e3 g1 g2 d dk (cL hq @qi @vA)) (JJ ?_);exact⟨some (.inr ⟨d1,⟨d2,d3,d4⟩,d5,d6⟩),(CF @sW),E⟩
    .refine ao (ey @ak hnd yK e3 g1 g2 d dk (cL hq @qi @uL)) (JJ ?_);exact⟨some (.inl ⟨j1,j2,j3⟩),(CF @uL),E⟩
    .refine ao (ey @ak hnd yK e3 g1 g2 d dk (cL hq @qi @sW)) (JJ ?_);exact⟨some (.inr ⟨j1,⟨j2,j3,j4⟩,j5,j6⟩),(CF @sW),E⟩
  .have E:E7 (nodeAt p n) w x.names=true:=by rw[E];cases x.names.drop k<;>rfl
   rw[E];rcases jk with _|(⟨j1,j2,j3⟩|⟨j1,⟨j2,j3,j4⟩,j5,j6⟩);all_goals(exact ao (fj e @vA @uL @sW) zz)
   all_goals rfl
 .have hz:Cu p n x=match (rF p n x.e).map (λt=>[t])with
   |none=>false
   |some w=>w.length==x.names.length&&E7 (nodeAt p n) w x.names:=by
   unfold Cu Ju;rw[ba Yy];rfl
  rw[hz];cases ho:rF p n x.e with
  |none=>
   rw[ho]at e2;dsimp only[Option.isSome,Option.getD]at e2;exact ao (fj @iJ.eq_1 @Lq.eq_1 @bA.eq_1 e2) zz;all_goals rfl
  |some t=>
  rw[ho]at e2;dsimp only[Option.isSome,Option.getD,Option.map]at e2|-;obtain⟨t1,t2,t3⟩:=t;by_cases cl:1=x.names.length;rotate_left
  .have hb:([(⟨t1,t2,t3⟩:Ty)].length==x.names.length)=false:=by simpa using cl
   have fL:¬(1:Int)=x.names.length:=by omega
   rw[hb];exact ao (fF @iJ.eq_1 @Lq.eq_1 @bA.eq_1 @ak e2) zz;all_goals rfl
  have hb:([(⟨t1,t2,t3⟩:Ty)].length==x.names.length)=true:=by simpa using cl
  have fL:(x.names.length:Int)=1:=by omega
  rw[hb];refine ao (jg @iJ.eq_1 @Lq.eq_1 @bA.eq_1 @ak e2 fL) (JJ (λhn=>?_));generalize hw:[(⟨t1,t2,t3⟩:Ty)]=w at*;have Uw:w.length=1:=by rw[<-hw];rfl
  have hwm:w.map dE=[[.int .i64 t1,.int .i64 t2,.int .i64 t3]]:=by rw[<-hw];rfl
  refine aj w (λk (jk:Option (Ty⊕tN))=>⟨[(1,.int .i64 n),(3,.ref (cE p)),(5,.ref (me x)),(7,.own 0 w.length 0 w.length),(15,.int .i64 k)],[⟨.aV,3,w.map dE⟩]++f7 jk⟩) (λk r _=>E7 (nodeAt p n) w x.names=E7 (nodeAt p n) r (x.names.drop k)) (some (.inl ⟨t1,t2,t3⟩)) (by decide) (CF (fF @uL Uw hwm @Cr.{0} @Bz.{0})) rfl (λk t r jk d U Z E=>?_) (λk jk e E=>?_)
  .have dk:k<x.names.length:=by omega
   obtain⟨s1,q1,q2⟩:=eE x.names dk;rw[q2,aAR]at E;have e3:=pA (nodeAt p n) s1;rw[lU I]at e3;have g1:=fN q1;have g2:=ag dE U;generalize (fv (nodeAt p n) s1).getD default=dd at*;generalize (fv (nodeAt p n) s1).isSome=aAT at*;obtain⟨d1,⟨d2,d3,d4⟩,d5,d6⟩:=dd;obtain⟨t1,t2,t3⟩:=t;dsimp only at E;cases hq:ow ⟨d2,d3,d4⟩ ⟨t1,t2,t3⟩<;>rw[hq]at E
   .rcases jk with _|(⟨j1,j2,j3⟩|⟨j1,⟨j2,j3,j4⟩,j5,j6⟩);all_goals(refine ao (ey @ak hnd yK e3 g1 g2 d dk (fF hq @qi @vA @uL @sW)) (JJ ?_))
    all_goals(rw[E];rfl)
   .rcases jk with _|(⟨j1,j2,j3⟩|⟨j1,⟨j2,j3,j4⟩,j5,j6⟩)
    .refine ao (ey @ak hnd yK e3 g1 g2 d dk (cL hq @qi @vA)) (JJ ?_);exact⟨some (.inr ⟨d1,⟨d2,d3,d4⟩,d5,d6⟩),(CF @sW),E⟩
    .refine ao (ey @ak hnd yK e3 g1 g2 d dk (cL hq @qi @uL)) (JJ ?_);exact⟨some (.inl ⟨j1,j2,j3⟩),(CF @uL),E⟩
    .refine ao (ey @ak hnd yK e3 g1 g2 d dk (cL hq @qi @sW)) (JJ ?_);exact⟨some (.inr ⟨j1,⟨j2,j3,j4⟩,j5,j6⟩),(CF @sW),E⟩
  .have E:E7 (nodeAt p n) w x.names=true:=by rw[E];cases x.names.drop k<;>rfl
   rw[E];rcases jk with _|(⟨j1,j2,j3⟩|⟨j1,⟨j2,j3,j4⟩,j5,j6⟩);all_goals(exact ao (fj e @vA @uL @sW) zz)
   all_goals rfl
theorem aAU{p:fc}(h:g9 p=fk):kL p=0/\bk (qR p) 0 p.nodes=fk:=by
 unfold g9 at h;split at h
 next c=>simp only[fk,Ce]at h;exact absurd h.2.2 c
 next c=>exact⟨by simpa using c,h⟩
theorem aoV{p:fc}{i:Nat}{n:kY}(h:qR p i n=fk):bk (w9 p i) 0 n.eqs=fk:=by
 unfold qR at h;split at h
 .simp[fk]at h
 .split at h
  next c=>exact absurd h c
  next c=>simpa using c
theorem aoU{p:fc}(hP:bF p=true)(h:g9 p=fk){i:Nat}{n:kY}{x:xY}(hn:p.nodes[i]? =some n)(U:x∈n.eqs):vQ p i x:=by
 obtain⟨h1,h2⟩:=aAU h;have h3:=lE h2 i n hn;rw[GL]at h3;have h4:=aoV h3;obtain⟨k,hk⟩:=adm U;have h5:=lE h4 k x hk;rw[GL]at h5;have hm:=ed hn;obtain⟨_,_,_,_,q5,_⟩:=nR h1;have k5:=q5 n hm;simp only[ov,ab,BE]at k5;have k6:=k5.1.1.2 x U;simp only[Ep,ab]at k6;have E:=aAK k6.1.2;obtain⟨_,_,_,_,_,l6⟩:=dz ((fE hP).2 n hm);have Hb:=(pc.1 hn).1;have he:F5 p i k x=0:=by
  by_cases c:F5 p i k x=0
  .exact c
  .rw[w9,ba c]at h5;exact absurd (C2 (λf:L6=>f.2.2) h5) c
 have _P:(az x.e).all (p8 p i)=true:=by
  unfold F5 at he;split at he
  next c=>exact absurd he c
  .split at he
   .assumption
   .cases he
 refine⟨⟨⟨hP,by omega,by omega⟩,h1,(l6 x U).2,λy hy=>⟨E y hy,?_⟩⟩,(l6 x U).1⟩;rw[GC];exact BE.1 _P y hy
noncomputable def RR:Ab->Prop×J:=bJ bA λp=>(bF p=true,.agg (mI (jv p)))
theorem abx(p:fc):RR [.agg (cE p)]=(bF p=true,.agg (mI (jv p))):=aI dY _ p
theorem as2(p:fc)(n:kY)(d:tN):R5 p n d=(d.on==[]||ow ((fv n d.on).getD default).ty (gH p.en d.ct).1):=by rw[iW];rfl
theorem NT{a b c:Int}{f:L6}(h:f=(a,b,c)):a=f.1/\b=f.2.1/\c=f.2.2:=by subst h;exact⟨rfl,rfl,rfl⟩
theorem afD{p:fc}(h:g9 p=fk):jv p=bk (sy p) 0 p.nodes:=by unfold jv;rw[ba (by rw[h];simp)]
theorem aA3{p:fc}(h:¬g9 p=fk):jv p=g9 p:=by unfold jv;rw[gr h]
theorem aJa:aJ Tryz.prog 153 RR:=by
 refine aJ.mS (ps:=[(167,RW),(154,Ct),(132,w8),(104,zc),(102,w7),(168,Jt)]) (I:=[]) ⟨aIU,iw,gO,cZ,fW,as1,BB⟩ trivial aGV λp h=>?_;dsimp only;have hP:bF p=true:=h;have hE:=vu hP;have Y:=abB p;rw[lU hP]at Y;obtain⟨Ua,zR⟩:=fE hP;by_cases c1:g9 p=fk;rotate_left
 .have Z:decide (g9 p=fk)=false:=Z7 c1;rw[aA3 c1];generalize g9 p=f at*;exact ao (fF @pB.eq_1 @bA.eq_1 Y @O1 Z) zz;all_goals rfl
 rw[afD c1];have hQ:=λ(i:Nat) (n:kY) (x:xY) (hn:p.nodes[i]? =some n) (U:x∈n.eqs)=>aoU hP c1 hn U;have e9:∀(i:Nat) (n:kY) (x:xY),p.nodes[i]? =some n->x∈n.eqs->Jt [.agg (cE p),.int .i64 i,.agg (me x)]=(True,.bool (Cu p i x)):=λi n x hn U=>by have:=aby p i x;rw[lU (hQ i n x hn U),GC]at this;exact this
 have Z:decide (g9 p=fk)=true:=ON c1;refine ao (fF @pB.eq_1 @bA.eq_1 Y @O1 Z) (JJ ?_);refine aj p.nodes (λj (_:Unit)=>⟨[(1,.ref (cE p)),(2,.ptr 0 1 0 0),(4,.int .i64 j)],[⟨.loc,3,[mI fk]⟩,⟨.loc,3,[mI (g9 p)]⟩]⟩) (λj r _=>bk (sy p) 0 p.nodes=bk (sy p) j r) () (by decide) CT rfl (λj n r _ d U Z E=>?_) (λj _ e E=>?_);rotate_left
 .have E:bk (sy p) 0 p.nodes=fk:=E;rw[E];refine ao @e (JJ ?_);all_goals rfl
 rw[bk]at E;have Uc:=zR n (ed U);have hl:=Dt Uc;have e2:=uU n;rw[lU Uc]at e2;have gn:=ag fe U;obtain⟨_,_,_,l4,_,_⟩:=dz Uc;refine ao (cL d gn e2) (JJ ?_);refine aj (dQ n) (λk (_:Unit)=>⟨[(1,.ref (cE p)),(2,.ptr 0 1 0 0),(4,.int .i64 j),(5,.sl ((dQ n).map gG)),(6,.int .i64 k)],[⟨.loc,3,[mI fk]⟩,⟨.loc,3,[mI (g9 p)]⟩]⟩) (λk q _=>(dQ n).all (R5 p n)=q.all (R5 p n)) () (by decide) CT rfl (λk x q _ dk US Q3 hq=>?_) (λk _ ek hq=>?_)
 .rw[MM,as2]at hq;have gx:=ag gG US;have e3:=pA n x.on;rw[lU Uc]at e3;have e4:=oP p.en x.ct;rw[lU hE]at e4;have hz:(dQ n).all (R5 p n)=false->bk (sy p) 0 p.nodes=((j:Int),-1,7):=λhf=>by
   have hT:sy p j n=((j:Int),-1,7):=by unfold sy;rw[hf];rfl
   rw[E,hT,ba (by simp[fk])]
  obtain⟨x1,⟨x2,x3,aA7⟩,x5,aJb⟩:=x;dsimp only at hq e3 e4;by_cases Ac:x5=[]
  .refine ao (cL dk gx Ac) (JJ ?_);all_goals first
    |exact⟨(),CT,by rw[hq,Ac];rfl⟩
  have eX:(x5==[])=false:=by simpa using Ac
  rw[eX,Mc]at hq;generalize (fv n x5).getD default=dd at*;generalize (fv n x5).isSome=aAT at*;generalize gH p.en aJb=aa at*;obtain⟨d1,⟨d2,d3,d4⟩,d5,d6⟩:=dd;obtain⟨⟨a1,a2,a3⟩,a4,a5⟩:=aa;dsimp only at hq e3 e4;cases hc:ow ⟨d2,d3,d4⟩ ⟨a1,a2,a3⟩<;>rw[hc]at hq;all_goals(refine ao (ey @iI d gn dk gx e3 e4 hc @qi) (bV ?_ (JJ ?_))<;>intros)
  all_goals first
   |exact absurd (by assumption) Ac
   |exact NT (hz hq)
   |exact⟨(),CT,hq⟩
 have hq:(dQ n).all (R5 p n)=true:=hq;have hT:sy p j n=bk (λk x=>if Cu p j x then fk else((j:Int),(k:Int),7)) 0 n.eqs:=by unfold sy;rw[hq];rfl
 rw[hT]at E;refine ao @ek (JJ ?_);refine aj n.eqs (λk (_:Unit)=>⟨[(1,.ref (cE p)),(2,.ptr 0 1 0 0),(4,.int .i64 j),(12,.int .i64 k)],[⟨.loc,3,[mI fk]⟩,⟨.loc,3,[mI (g9 p)]⟩]⟩) (λk q _=>bk (λk x=>if Cu p j x then fk else((j:Int),(k:Int),7)) 0 n.eqs=bk (λk x=>if Cu p j x then fk else((j:Int),(k:Int),7)) k q) () (by decide) CT rfl (λk x q _ dk US Q3 Jr=>?_) (λk _ Tn Jr=>?_)
 .rw[bk]at Jr;have e5:=e9 j n x U (ed US);have gx:=ag me US;cases hc:Cu p j x<;>rw[hc]at Jr e5
  .have h7:¬(((j:Int),(k:Int),(7:Int)):L6)=fk:=by simp[fk]
   simp only[AN,Bv]at Jr;rw[ba h7]at Jr;rw[Jr,ba h7]at E;refine ao (jg @iI d gn dk gx e5) (JJ ?_);all_goals exact NT E
  .simp only[Bp]at Jr;refine ao (fF d gn dk gx e5) (JJ ?_);all_goals exact⟨(),CT,Jr⟩
 .have Jr:_=fk:=Jr;rw[Jr,gr rfl]at E;refine ao (cL d gn Tn) (JJ ?_);all_goals exact⟨(),CT,E⟩
end Go.Proofs.YtldnkkkooabaeaaGreat

/- Programs: clocks: the walk (17). -/
import Derived.Test.YtcokmopocppmiaaGreatPgDe
set_option linter.all false
set_option maxRecDepth 20000
namespace Go.Proofs.YtcokmopocppmiaaGreat
noncomputable section
open Go.Nk
abbrev tS:List dY->DV:=eL eD
theorem BS:rJ tS:=Al mu
theorem auJ(a:List UInt8)(b:Int)(c:List UInt8)(d:Int):Vf true [2,0] (.agg [.str a,.int .i64 b]) (.agg [.str c,.int .i64 d])=(True,.bool (!((a,b)==(c,d)))):=by
 have:ez [2,0] [.str a,.int .i64 b] [.str c,.int .i64 d]=some ((a,b)==(c,d)):=by simp only[ez,if_true];show _=some (a==c&&b==d);cases (a==c)<;>cases (b==d)<;>rfl
 simp[Vf,this]
def zr:List DV->Prop×DV:=eR bj eI eS λp i s=>(bx p=true/\0<=i,.cy [.sl (((da p i.toNat s).getD []).map eD),.bool (da p i.toNat s).isSome])
theorem tP(p:cY)(i:Int)(s:List UInt8):zr [.agg (bT p),.int .i64 i,.str s]=(bx p=true/\0<=i,.cy [.sl (((da p i.toNat s).getD []).map eD),.bool (da p i.toNat s).isSome]):=bz dp b6 ik _ p i s
theorem eZ:aF Tryz.prog 68 zr:=by
 refine aF.uR (ps:=[(96,G5),(97,xC)]) (hs:=[]) ⟨sv,cG,trivial⟩ trivial JN λp i s h=> ?_;try dsimp only at h
 obtain⟨hP,hi⟩:=h;obtain⟨n,rfl⟩:=Int.eq_ofNat_of_zero_le hi;simp only[Int.toNat_natCast];have hE:=tR hP;obtain⟨Rc,zS⟩:=eO hP;have h0:¬(n:Int)<0:=by omega
 by_cases hn:n<p.nodes.length;rotate_left
 ·have hz:da p n s=none:=by unfold da;rw[if_neg hn]
  have h1:p.nodes.length<=n:=by omega
  rw[hz];refine aq (A3 @mw.eq_1 @bj.eq_1 h0) (JJ (λhn=> ?_));all_goals rfl
 have h1:¬p.nodes.length<=n:=by omega
 have gn:=af ef (hU hn);have hs:=zS _ (List.mem_of_getElem? (hU hn));have e1:=Ln (p.nodes.getD n default) s;rw[eq_true hs]at e1;have hz:da p n s=match mQ (p.nodes.getD n default) s with|none=>none|some l=>mS p.en l:=by unfold da;rw[if_pos hn];rfl
 rw[hz];generalize p.nodes.getD n default=nd at*;cases hc:mQ nd s with
 |none=>
  rw[hc]at e1;dsimp only[Option.isSome,Option.getD]at e1;refine aq (A5 @mw.eq_1 @bj.eq_1 h0 gn e1) (JJ (λhn=> ?_));all_goals rfl
 |some l=>
 rw[hc]at e1;dsimp only[Option.isSome,Option.getD]at e1;have auK:=(OI hc (λd hd=>by simp at hd)).2;have e2:∀d∈l,xC [.sl (p.en.map jQ),.str d.ct]=(True,.cy [.agg (cK (fA p.en d.ct).1),.int .i64 (fA p.en d.ct).2.1,.bool (fA p.en d.ct).2.2]):=λd hd=>by rw[nh,eq_true hE]
 refine aq (A5 @mw.eq_1 @bj.eq_1 h0 gn e1) (JJ (λhn=> ?_));refine ai l (λk (o:List dY)=>⟨[(3,.ref (bT p)),(8,.sl (l.map fR)),(10,.own 0 o.length 0 o.length),(11,.int .i64 k)],[⟨.aN,2,o.map eD⟩]⟩) (λk r o=>o.length=k/\mS p.en l=(mS p.en r).map (o++·)) [] (by decide) CT ⟨rfl,by cases mS p.en l<;>rfl⟩ (λk d r o dk hx hd hr=> ?_) (λk o ek hr=> ?_)
 ·obtain⟨r1,r2⟩:=hr;rw[mS]at r2;have gd:=af fR hx;have e3:=e2 d (List.mem_of_getElem? hx);have hb:my p.en d.ct=(fA p.en d.ct).2.2:=rfl;rw[hb]at r2;obtain⟨x1,x2,x3,x4⟩:=d;dsimp only at r2 e3;generalize fA p.en x4=a at*;obtain⟨⟨a1,a2,a3⟩,a4,a5⟩:=a;simp at auK;cases a5
  ·simp only[Bool.false_eq_true,if_false,Option.map_none]at r2;rw[r2];refine aq (A3 dk gd e3) (JJ ?_);all_goals rfl
  ·simp only[if_true]at r2;refine aq (A3 dk gd e3) (JJ ?_);exact⟨o++[(x3,a4)],(CF (A2 @List.map_append.{0,0} @eD.eq_1)),by simp[r1],by rw[r2];cases mS p.en r<;>simp⟩
 ·obtain⟨r1,r2⟩:=hr;have r2:mS p.en l=some o:=by rw[r2];simp[mS]
  rw[r2];have XC:(o.map eD).take l.length=o.map eD:=List.take_of_length_le (by simp;omega);refine aq (A3 ek @r1 XC) (JJ ?_);all_goals rfl
def BT:List DV->Prop×DV:=b5 tS tS λa b=>(a.length<=1000000,.bool (a==b))
theorem yE(a:List dY)(b:List dY):BT [.sl (a.map eD),.sl (b.map eD)]=(a.length<=1000000,.bool (a==b)):=aO BS BS _ a b
theorem aj1{x y:dY}{a b:List dY}:(x::a==y::b)=(x==y&&a==b):=rfl
theorem kg:aF Tryz.prog 165 BT:=by
 refine aF.oU (ps:=[]) (hs:=[]) trivial trivial G6 λa b h=> ?_;try dsimp only at h
 have h:a.length<=1000000:=h;by_cases hl:a.length=b.length;rotate_left
 ·have hz:(a==b)=false:=by rw[beq_eq_false_iff_ne];intro hh;exact hl (by rw[hh])
  rw[hz];have hl':¬(a.length:Int)=b.length:=by omega
  exact aq (A2 @pn.eq_1 @tS.eq_1) zz;all_goals rfl
 have hl':(a.length:Int)=b.length:=by omega
 refine aq (A3 @pn.eq_1 @tS.eq_1 hl') (JJ ?_);refine ai a (λk (_:Unit)=>⟨[(0,.sl (a.map eD)),(1,.sl (b.map eD)),(5,.int .i64 k)],[]⟩) (λk r _=>(a==b)=(r==b.drop k)) () (Nat.zero_le _) CT rfl (λk x r _ d hx hd hr=> ?_) (λk _ e hr=> ?_)
 ·have dk:k<b.length:=by omega
  obtain⟨y,q1,q2⟩:=dP b dk;rw[q2,aj1]at hr;have g1:=af eD hx;have g2:=af eD q1;obtain⟨x1,x2⟩:=x;obtain⟨y1,y2⟩:=y;have d':(k:Int)<b.length:=by omega
  cases hq:((x1,x2)==(y1,y2))<;>rw[hq]at hr
  ·refine aq (A6 d' hl g1 g2 hq @auJ) (JJ ?_);all_goals(rw[hr];rfl)
  ·refine aq (A6 d' hl g1 g2 hq @auJ) (JJ ?_);exact⟨(),CT,hr⟩
 ·have hdr:b.drop k=[]:=List.drop_of_length_le (by omega);rw[hdr]at hr;have hr:_=true:=hr;rw[hr];exact aq (A2 e hl) zz;all_goals rfl
def Oy:List DV->Prop×DV:=eR tS eS eI λon s n=>(on.length<=1000000,.sl ((on++[(s,n)]).map eD))
theorem JG(on:List dY)(s:List UInt8)(n:Int):Oy [.sl (on.map eD),.str s,.int .i64 n]=(on.length<=1000000,.sl ((on++[(s,n)]).map eD)):=bz BS ik b6 _ on s n
theorem nN:aF Tryz.prog 153 Oy:=by
 refine aF.uR (ps:=[]) (hs:=[]) trivial trivial G7 λon s n h=> ?_;try dsimp only at h
 have h:on.length<=1000000:=h;have hm:(on++[(s,n)]).map eD=on.map eD++[[.str s,.int .i64 n]]:=by simp
 have XC:(on.map eD++[[DV.str s,DV.int .i64 n]]).take (on.length+1)=on.map eD++[[DV.str s,DV.int .i64 n]]:=List.take_of_length_le (by simp);rw[hm];have mn:∀e∈on.map eD,e.length=2:=λe he=>by obtain⟨x,_,rfl⟩:=List.mem_map.1 he;rfl
 have aj2:=eq_true mn;have h1:on.length<=4294967296:=by omega
 have h2:on.length<=4294967295:=by omega
 exact aq (A6 @vp.eq_1 @tS.eq_1 XC aj2 h1 h2) zz;all_goals rfl
theorem JE{p:cY}{i:Nat}{on:List dY}:∀{l:List Ex},(ng p i l (l.map λ_=>on)).all id=l.all λx=>c0 p i x on
 |[]=>rfl
 |x::l=>by rw[List.map_cons,ng,List.all_cons,List.all_cons,JE];rfl
def mgF(p:cY)(i:Nat)(s:List UInt8)(on:List dY):List Ex->List (List UInt8)->Bool
 |x::l,c::r=>my p.en c&&(c0 p i x (on++[(s,(fA p.en c).2.1)])&&mgF p i s on l r)
 |_,_=>true
theorem U8{p:cY}{i:Nat}{s:List UInt8}{on:List dY}:∀{l:List Ex} {a:List (List UInt8)},a.length=l.length->(a.all (my p.en)&&(ng p i l (a.map λc=>on++[(s,(fA p.en c).2.1)])).all id)=mgF p i s on l a
 |[],[],_=>rfl
 |x::l,c::a,h=>by rw[List.map_cons,ng,List.all_cons,List.all_cons,mgF,<-U8 (l:=l) (a:=a) (by simpa using h)];show(my p.en c&&a.all (my p.en)&&(c0 p i x _&&_))=_;cases my p.en c<;>cases a.all (my p.en)<;>cases c0 p i x (on++[(s,(fA p.en c).2.1)])<;>rfl
 |[],_::_,h=>by simp at h
 |_::_,[],h=>by simp at h
def tT(N:Nat):List DV->Prop×DV:=Ak bj eI gC tS λp i e on=>(yx p i e/\(ax e).length<N/\on.length+(ax e).length<=1000,.bool (c0 p i.toNat e on))
theorem SE(N:Nat)(p:cY)(i:Int)(e:Ex)(on:List dY):tT N [.agg (bT p),.int .i64 i,.agg (cA e),.sl (on.map eD)]=(yx p i e/\(ax e).length<N/\on.length+(ax e).length<=1000,.bool (c0 p i.toNat e on)):=tG dp b6 fv BS _ p i e on
def abF(N:Nat):List DV->Prop×DV:=Ak bj eI gC tS λp i e on=>((yx p i e/\e.kind=11)/\(ax e).length<N+1/\on.length+(ax e).length<=1000,.bool (c0 p i.toNat e on))
theorem agd(N:Nat)(p:cY)(i:Int)(e:Ex)(on:List dY):abF N [.agg (bT p),.int .i64 i,.agg (cA e),.sl (on.map eD)]=((yx p i e/\e.kind=11)/\(ax e).length<N+1/\on.length+(ax e).length<=1000,.bool (c0 p i.toNat e on)):=tG dp b6 fv BS _ p i e on
def Vg(N:Nat):List DV->Prop×DV:=Ak bj eI gC tS λp i e on=>((yx p i e/\e.kind=12)/\(ax e).length<N+1/\on.length+(ax e).length<=1000,.bool (c0 p i.toNat e on))
theorem abG(N:Nat)(p:cY)(i:Int)(e:Ex)(on:List dY):Vg N [.agg (bT p),.int .i64 i,.agg (cA e),.sl (on.map eD)]=((yx p i e/\e.kind=12)/\(ax e).length<N+1/\on.length+(ax e).length<=1000,.bool (c0 p i.toNat e on)):=tG dp b6 fv BS _ p i e on
theorem OJ{N:Nat}{p:cY}{i:Int}{e x:Ex}{on:List dY}(hX:yx p i e)(hx:x∈e.ar)(hN:(ax e).length<N+1)(ho:on.length+(ax x).length<=1000):
 tT N [.agg (bT p),.int .i64 i,.agg (cA x),.sl (on.map eD)]=(True,.bool (c0 p i.toNat x on)):=by
 rw[SE,eq_true (show yx p i x/\(ax x).length<N/\on.length+(ax x).length<=1000 from⟨hX.sub hx,by have:=jK hx;omega,ho⟩)]
theorem an0(N:Nat)(hO:aF Tryz.prog 166 (tT N)):aF Tryz.prog 184 (abF N):=by
 refine aF.mk4 (ps:=[(68,zr),(97,xC),(153,Oy),(165,BT),(166,tT N)]) (hs:=[]) ⟨eZ,cG,nN,kg,hO,trivial⟩ trivial G8 λp i e on h=> ?_;obtain⟨⟨hX,M6⟩,hN,hb⟩:=h;dsimp only;have hE:=tR hX.1.1;obtain⟨m,hm⟩:=ajR hX.self.1 M6;obtain⟨a,ha⟩:=(dF hX.self.1).1 (.inr (.inr M6));have hma:a∈e.ar:=by rw[ha];simp
 have hpa:=kL hX.2.2.1;have RH:=jK hma;have e1:=tP p i e.name;rw[eq_true (show bx p=true/\0<=i from⟨hX.1.1,hX.1.2.1⟩)]at e1;have e2:=nh p.en m;rw[eq_true hE]at e2;have e5:=λ(row:List dY) ho=>OJ (on:=row) hX hma hN ho;have g0:(dI e.arms).getD 0 []=[.str m]:=by rw[hm];rfl
 have g1:(e.ar.map cA).getD 0 []=cA a:=by rw[ha];rfl
 have l1:(e.arms.length:Int)=1:=by rw[hm];rfl
 have l2:(e.ar.length:Int)=1:=by rw[ha];rfl
 have hz:c0 p i.toNat e on=match da p i.toNat e.name with
  |none=>false
  |some row=>my p.en m&&(on==row++[(e.name,(fA p.en m).2.1)]&&c0 p i.toNat a row):=by
  rw[iH,if_neg (by omega),if_neg (by omega),if_neg (by omega),if_pos M6,hm,ha];cases da p i.toNat e.name with
  |none=>rfl
  |some row=>
   simp only[List.length_cons,List.length_nil,List.getD_cons_zero,ng];cases my p.en m<;>rfl
 rw[hz];have hab:my p.en m=(fA p.en m).2.2:=rfl;rw[hab];simp only[ag a]at g1 e5;generalize fA p.en m=q at*;obtain⟨⟨q1,q2,q3⟩,q4,q5⟩:=q;cases hr:da p i.toNat e.name with
 |none=>
  rw[hr]at e1;dsimp only[Option.isSome,Option.getD]at e1;exact aq (A7 @po.eq_1 @gC.eq_1 @bj.eq_1 @tS.eq_1 (ag e) M6 e1) zz;all_goals rfl
 |some row=>
  rw[hr]at e1;dsimp only[Option.isSome,Option.getD]at e1;have hrl:=(JO hr).2;have e3:=JG row e.name q4;rw[eq_true (show row.length<=1000000 by omega)]at e3;have e4:=yE on (row++[(e.name,q4)]);rw[eq_true (show on.length<=1000000 by omega)]at e4;have e5:=e5 row (by omega);dsimp only;generalize (on==row++[(e.name,q4)])=b1 at*;generalize row++[(e.name,q4)]=aCM at*;generalize c0 p i.toNat a row=b2 at*;exact aq (A9 @po.eq_1 @gC.eq_1 @bj.eq_1 @tS.eq_1 @aj (ag e) M6 e1 (A8 e2 e3 e4 e5 g0 g1 l1 l2)) zz;all_goals rfl
theorem Ox{p:cY}{i:Nat}{s:List UInt8}{on:List dY}{x:Ex}{l:List Ex}{c:List UInt8}{r:List (List UInt8)}:mgF p i s on (x::l) (c::r)=(my p.en c&&(c0 p i x (on++[(s,(fA p.en c).2.1)])&&mgF p i s on l r)):=rfl
theorem aj3(N:Nat)(hO:aF Tryz.prog 166 (tT N)):aF Tryz.prog 185 (Vg N):=by
 refine aF.mk4 (ps:=[(68,zr),(97,xC),(153,Oy),(165,BT),(166,tT N)]) (hs:=[]) ⟨eZ,cG,nN,kg,hO,trivial⟩ trivial Es λp i e on h=> ?_;obtain⟨⟨hX,AD⟩,hN,hb⟩:=h;dsimp only;have hE:=tR hX.1.1;obtain⟨p1,p2,p3⟩:=(dF hX.self.1).2.2.2.1 AD;have hpa:=kL hX.2.2.1;have e1:=tP p i e.name;rw[eq_true (show bx p=true/\0<=i from⟨hX.1.1,hX.1.2.1⟩)]at e1;have e2:=λm=>nh p.en m;simp only[eq_true hE]at e2;have hz:c0 p i.toNat e on=(da p i.toNat e.name==some on&&mgF p i.toNat e.name on e.ar e.arms):=by
  rw[iH,if_neg (by omega),if_neg (by omega),if_neg (by omega),if_neg (by omega),if_pos AD,<-U8 p1.symm];have:(e.arms.length==e.ar.length)=true:=by simp[p1]
  rw[this,Bool.and_true,Bool.and_assoc]
 rw[hz];have ll:(e.arms.length:Int)=e.ar.length:=by omega
 cases hr:da p i.toNat e.name with
 |none=>
  rw[hr]at e1;dsimp only[Option.isSome,Option.getD]at e1;refine aq (A7 @ki.eq_1 @gC.eq_1 @bj.eq_1 @tS.eq_1 (ag e) AD e1) (JJ ?_);all_goals rfl
 |some row=>
  rw[hr]at e1;dsimp only[Option.isSome,Option.getD]at e1;have hrl:=(JO hr).2;have e4:=yE row on;rw[eq_true (show row.length<=1000000 by omega)]at e4;have hs:(some row==some on)=(row==on):=rfl;rw[hs];cases hb1:(row==on)
  ·rw[hb1]at e4;exact aq (A8 @ki.eq_1 @gC.eq_1 @bj.eq_1 @tS.eq_1 (ag e) AD e1 e4) zz;all_goals rfl
  rw[hb1]at e4;refine aq (A9 @ki.eq_1 @gC.eq_1 @bj.eq_1 @tS.eq_1 @aj (ag e) AD e1 (A2 e4 ll)) (JJ ?_);refine ai e.arms (λk (_:Unit)=>⟨[(1,.int .i64 i),(3,.sl (on.map eD)),(4,.ref (bT p)),(6,.ref (cA e)),(11,.int .i64 k)],[]⟩) (λk r _=>mgF p i.toNat e.name on e.ar e.arms=mgF p i.toNat e.name on (e.ar.drop k) r) () (Nat.zero_le _) (CF (A2 (ag e) AD)) rfl (λk c r _ d hx hd hq=> ?_) (λk _ ek hq=> ?_)
  ·have dk:k<e.ar.length:=by omega
   obtain⟨x,q1,q2⟩:=dP e.ar dk;rw[q2,Ox]at hq;have Rf:=List.mem_of_getElem? q1;have g1:=fk hx;have g2:=af cA q1;have RH:=jK Rf;have hab:my p.en c=(fA p.en c).2.2:=rfl;rw[hab]at hq;have e2:=e2 c;generalize fA p.en c=q at*;obtain⟨⟨q3,q4,q5⟩,q6,q7⟩:=q;dsimp only at hq;have e3:=JG on e.name q6;rw[eq_true (show on.length<=1000000 by omega)]at e3;have e5:=OJ (on:=on++[(e.name,q6)]) hX Rf hN (by simp;omega);simp only[ag x]at g2 e5;have dk':(k:Int)<e.ar.length:=by omega
   generalize c0 p i.toNat x (on++[(e.name,q6)])=b2 at*;generalize on++[(e.name,q6)]=on2 at*;cases q7
   ·refine aq (A7 @aj (ag e) AD dk' g1 e2 ll) (JJ ?_);all_goals(rw[hq];rfl)
   cases b2
   ·refine aq (A9 @aj (ag e) AD dk' g1 g2 e2 e3 (A2 e5 ll)) (JJ ?_);all_goals(rw[hq];rfl)
   ·refine aq (A9 @aj (ag e) AD dk' g1 g2 e2 e3 (A2 e5 ll)) (JJ ?_);exact⟨(),CT,hq⟩
  ·have hq:mgF p i.toNat e.name on e.ar e.arms=true:=by rw[hq];cases e.ar.drop k<;>rfl
   rw[hq];have ek':¬(k:Int)<e.ar.length:=by omega
   exact aq (A5 @aj (ag e) AD ek ll) zz;all_goals rfl
theorem aj4(N:Nat)(hO:aF Tryz.prog 166 (tT N)):aF Tryz.prog 166 (tT (N+1)):=by
 refine aF.mk4 (ps:=[(68,zr),(165,BT),(184,abF N),(185,Vg N),(166,tT N)]) (hs:=[]) ⟨eZ,kg,an0 N hO,aj3 N hO,hO,trivial⟩ trivial vq λp i e on h=> ?_;obtain⟨hX,hN,hb⟩:=h;dsimp only;have zS:=hX.2.2.1;have hsl:=AP zS;have e1:=tP p i e.name;rw[eq_true (show bx p=true/\0<=i from⟨hX.1.1,hX.1.2.1⟩)]at e1;have e3:=agd N p i e on;have e4:=abG N p i e on;have e5:=λ(x:Ex) (hx:x∈e.ar)=>OJ (on:=on) hX hx hN (by have:=jK hx;omega);obtain⟨p1,p2,_⟩:=dF hX.self.1;have h0:¬i<0:=by have:=hX.1.2.1;omega
 have h1:¬(p.nodes.length:Int)<=i:=by have:=hX.1.2.2;omega
 simp only[ag e]at e3 e4;by_cases c1:e.kind=1\/e.kind=2\/e.kind=4
 ·have hz:c0 p i.toNat e on=true:=by rw[iH,if_pos c1]
  rw[hz];rcases c1 with c1|c1|c1<;>(exact aq (A8 @du.eq_1 @gC.eq_1 @bj.eq_1 @tS.eq_1 (ag e) c1 h0 h1) zz);all_goals rfl
 have d1:¬e.kind=1:=λhh=>c1 (.inl hh);have d2:¬e.kind=2:=λhh=>c1 (.inr (.inl hh));have d4:¬e.kind=4:=λhh=>c1 (.inr (.inr hh));by_cases c3:e.kind=3
 ·have hz:c0 p i.toNat e on=(da p i.toNat e.name==some on):=by rw[iH,if_neg c1,if_pos c3]
  rw[hz];cases hr:da p i.toNat e.name with
  |none=>
   rw[hr]at e1;dsimp only[Option.isSome,Option.getD]at e1;refine aq (A9 @du.eq_1 @gC.eq_1 @bj.eq_1 @tS.eq_1 (ag e) c3 h0 h1 e1) (JJ ?_);all_goals rfl
  |some row=>
   rw[hr]at e1;dsimp only[Option.isSome,Option.getD]at e1;have hrl:=(JO hr).2;have e2:=yE row on;rw[eq_true (show row.length<=1000000 by omega)]at e2;refine aq (A9 @du.eq_1 @gC.eq_1 @bj.eq_1 @tS.eq_1 (ag e) c3 h0 h1 (A2 e1 e2)) (JJ ?_);all_goals rfl
 by_cases c8:e.kind=8
 ·obtain⟨a,b,hs⟩:=p2 (.inr (.inl c8));have eb:=e5 b (by rw[hs];simp);have gb:(e.ar.map cA).getD 1 []=cA b:=by rw[hs];rfl
  have l2:(e.ar.length:Int)=2:=by rw[hs];rfl
  have hz:c0 p i.toNat e on=c0 p i.toNat b on:=by rw[iH,if_neg c1,if_neg c3,if_pos c8,hs];rfl
  rw[hz];simp only[ag b]at eb gb;exact aq (A9 @du.eq_1 @gC.eq_1 @bj.eq_1 @tS.eq_1 (ag e) c8 h0 h1 (A3 eb gb l2)) zz;all_goals rfl
 by_cases RJ:e.kind=11
 ·rw[eq_true (show(yx p i e/\e.kind=11)/\(ax e).length<N+1/\on.length+(ax e).length<=1000 from⟨⟨hX,RJ⟩,hN,hb⟩)]at e3;rw[RJ]at e3;exact aq (A9 @du.eq_1 @gC.eq_1 @bj.eq_1 @tS.eq_1 (ag e) RJ h0 h1 e3) zz;all_goals rfl
 by_cases Mv:e.kind=12
 ·rw[eq_true (show(yx p i e/\e.kind=12)/\(ax e).length<N+1/\on.length+(ax e).length<=1000 from⟨⟨hX,Mv⟩,hN,hb⟩)]at e4;rw[Mv]at e4;exact aq (A9 @du.eq_1 @gC.eq_1 @bj.eq_1 @tS.eq_1 (ag e) Mv h0 h1 e4) zz;all_goals rfl
 by_cases c17:e.kind=17
 ·have hz:c0 p i.toNat e on=false:=by rw[iH,if_neg c1,if_neg c3,if_neg c8,if_neg RJ,if_neg Mv,if_pos c17]
  rw[hz];exact aq (A8 @du.eq_1 @gC.eq_1 @bj.eq_1 @tS.eq_1 (ag e) c17 h0 h1) zz;all_goals rfl
 have hz:c0 p i.toNat e on=e.ar.all λx=>c0 p i.toNat x on:=by rw[iH,if_neg c1,if_neg c3,if_neg c8,if_neg RJ,if_neg Mv,if_neg c17,JE]
 rw[hz];refine aq (A7 @du.eq_1 @gC.eq_1 @bj.eq_1 @tS.eq_1 (ag e) h0 h1) (JJ (λhn hn hn hn hn hn hn hn=> ?_));refine ai e.ar (λk (_:Unit)=>⟨[(1,.int .i64 i),(3,.sl (on.map eD)),(4,.ref (bT p)),(6,.ref (cA e)),(11,.int .i64 k)],[]⟩) (λk r _=>(e.ar.all λx=>c0 p i.toNat x on)=r.all λx=>c0 p i.toNat x on) () (Nat.zero_le _) (CF (ag e)) rfl (λk x r _ d hx hd hr=> ?_) (λk _ ek hr=> ?_)
 ·rw[List.all_cons]at hr;have ex:=e5 x (List.mem_of_getElem? hx);have gx:=af cA hx;simp only[ag x]at ex gx;generalize c0 p i.toNat x on=b at*;cases b
  ·refine aq (A4 (ag e) d gx ex) (JJ ?_);all_goals(rw[hr];rfl)
  ·refine aq (A4 (ag e) d gx ex) (JJ ?_);exact⟨(),CT,hr⟩
 ·have hr:_=true:=hr;rw[hr];exact aq (A2 (ag e) ek) zz;all_goals rfl
theorem XU:∀N,aF Tryz.prog 166 (tT N)
 |0=>aF.mk4 (ps:=[]) (hs:=[]) trivial trivial vq λp i e on h=>absurd h.2.1 (Nat.not_lt_zero _)
 |N+1=>aj4 N (XU N)
def ary(p:cY)(i:Int)(x:wq):Prop:=okQ p i x/\0<x.names.length
def Vh:List DV->Prop×DV:=eR bj eI Mw λp i x=>(ary p i x,.bool (GW p i.toNat x))
theorem agf(p:cY)(i:Int)(x:wq):Vh [.agg (bT p),.int .i64 i,.agg (kO x)]=(ary p i x,.bool (GW p i.toNat x)):=bz dp b6 Vi _ p i x
theorem sJ{p:cY}{i:Nat}{s:List UInt8}:((da p i s).getD []).length<=13:=by
 cases h:da p i s with
 |none=>simp
 |some r=>exact(JO h).2
theorem an1:aF Tryz.prog 148 Vh:=by
 refine aF.uR (ps:=[(68,zr),(165,BT),(166,tT 300)]) (hs:=[]) ⟨eZ,kg,XU 300,trivial⟩ trivial Mx λp i x h=> ?_;obtain⟨⟨hX,hxn⟩,hx0⟩:=h;dsimp only;have e1:=λs=>tP p i s;simp only[eq_true (show bx p=true/\0<=i from⟨hX.1.1,hX.1.2.1⟩)]at e1;have hpa:=kL hX.2.2.1;have hr0:=sJ (p:=p) (i:=i.toNat) (s:=x.names.getD 0 []);have e3:=SE 300 p i x.e ((da p i.toNat (x.names.getD 0 [])).getD []);rw[eq_true (show yx p i x.e/\(ax x.e).length<300/\((da p i.toNat (x.names.getD 0 [])).getD []).length+(ax x.e).length<=1000 from⟨hX,hpa,by omega⟩)]at e3;simp only[ag x.e]at e3;have g0:(dI x.names).getD 0 []=[.str (x.names.getD 0 [])]:=fk (by rw[List.getD_eq_getElem?_getD,List.getElem?_eq_getElem hx0];rfl);have h0:(0:Int)<x.names.length:=by omega
 have hq:GW p i.toNat x=((x.names.all λs=>(da p i.toNat s).getD []==(da p i.toNat (x.names.getD 0 [])).getD [])&&c0 p i.toNat x.e ((da p i.toNat (x.names.getD 0 [])).getD [])):=rfl;rw[hq];have e10:=e1 (x.names.getD 0 []);generalize (da p i.toNat (x.names.getD 0 [])).getD []=row at*;generalize (da p i.toNat (x.names.getD 0 [])).isSome=rb at*;generalize x.names.getD 0 []=s0 at*;refine aq (A7 @zw.eq_1 @Mw.eq_1 @bj.eq_1 @aj g0 h0 e10) (JJ ?_);refine ai x.names (λk (_:Unit)=>⟨[(1,.int .i64 i),(3,.ref (bT p)),(5,.ref (kO x)),(7,.sl (row.map eD)),(9,.int .i64 k)],[]⟩) (λk r _=>(x.names.all λs=>(da p i.toNat s).getD []==row)=r.all λs=>(da p i.toNat s).getD []==row) () (Nat.zero_le _) CT rfl (λk s r _ d hx hd hr=> ?_) (λk _ ek hr=> ?_)
 ·rw[List.all_cons]at hr;have e11:=e1 s;have gs:=fk hx;have hrs:=sJ (p:=p) (i:=i.toNat) (s:=s);generalize (da p i.toNat s).getD []=rw1 at*;have e2:=yE rw1 row;rw[eq_true (show rw1.length<=1000000 by omega)]at e2;generalize hb:(rw1==row)=b at*;cases b
  ·refine aq (A5 @aj d gs e11 e2) (JJ ?_);all_goals(rw[hr];rfl)
  ·refine aq (A5 @aj d gs e11 e2) (JJ ?_);exact⟨(),CT,hr⟩
 ·have hr:_=true:=hr;rw[hr];exact aq (A3 @aj ek e3) zz;all_goals rfl
theorem SB{p:cY}(h:iV p=eu):fX p=eu:=by
 by_cases c:fX p=eu
 ·exact c
 ·rw[SF c]at h;exact h
theorem aed{p:cY}(hP:bx p=true)(h:fX p=eu){i:Nat}{n:kZ}{x:wq}(hn:p.nodes[i]? =some n)(hx:x∈n.eqs):ary p i x:=by refine⟨aj5 hP h hn hx,?_⟩;obtain⟨_,_,_,_,q5,_⟩:=mz (SG h).1;have k5:=q5 n (List.mem_of_getElem? hn);simp only[nO,Bool.and_eq_true,List.all_eq_true]at k5;have k6:=k5.1.1.2 x hx;simp only[Et,Bool.and_eq_true,decide_eq_true_eq]at k6;exact k6.1.1.2
def OK:List DV->Prop×DV:=bB bj λp=>(bx p=true,.agg (lV (iU p)))
theorem XV(p:cY):OK [.agg (bT p)]=(bx p=true,.agg (lV (iU p))):=aH dp _ p
theorem abI{p:cY}(h:iV p=eu):iU p=aX (qg p) 0 p.nodes:=by unfold iU;rw[if_neg (by rw[h];simp)]
theorem SA{p:cY}(h:¬iV p=eu):iU p=iV p:=by unfold iU;rw[if_pos h]
set_option maxHeartbeats 2000000 in
theorem CE:aF Tryz.prog 125 OK:=by
 refine aF.mo (ps:=[(146,OL),(147,AQ),(68,zr),(95,vr),(148,Vh)]) (hs:=[]) ⟨CG,gF,eZ,fi,an1,trivial⟩ trivial Eu λp h=> ?_;dsimp only;have hP:bx p=true:=h;have e1:=XW p;rw[eq_true hP]at e1;obtain⟨Rc,zS⟩:=eO hP;by_cases c1:iV p=eu;rotate_left
 ·have hd:decide (iV p=eu)=false:=decide_eq_false c1;rw[SA c1];generalize iV p=f at*;exact aq (A5 @nP.eq_1 @bj.eq_1 e1 @Ms hd) zz;all_goals rfl
 rw[abI c1];have e9:∀(i:Nat) (n:kZ) (x:wq),p.nodes[i]? =some n->x∈n.eqs->Vh [.agg (bT p),.int .i64 i,.agg (kO x)]=(True,.bool (GW p i x)):=λi n x hn hx=>by have:=agf p i x;rw[eq_true (aed hP (SB c1) hn hx),Int.toNat_natCast]at this;exact this
 have e8:∀(i:Nat) (s:List UInt8),zr [.agg (bT p),.int .i64 i,.str s]=(True,.cy [.sl (((da p i s).getD []).map eD),.bool (da p i s).isSome]):=λi s=>by have:=tP p i s;rw[eq_true (show bx p=true/\(0:Int)<=i from⟨hP,by omega⟩),Int.toNat_natCast]at this;exact this
 have hd:decide (iV p=eu)=true:=decide_eq_true c1;refine aq (A5 @nP.eq_1 @bj.eq_1 e1 @Ms hd) (JJ ?_);refine ai p.nodes (λj (_:Unit)=>⟨[(1,.ref (bT p)),(2,.ptr 0 1 0 0),(4,.int .i64 j)],[⟨.loc,3,[lV eu]⟩,⟨.loc,3,[lV (iV p)]⟩]⟩) (λj r _=>aX (qg p) 0 p.nodes=aX (qg p) j r) () (by decide) CT rfl (λj n r _ d hx hd hr=> ?_) (λj _ e hr=> ?_);rotate_left
 ·have hr:aX (qg p) 0 p.nodes=eu:=hr;rw[hr];refine aq @e (JJ ?_);all_goals rfl
 rw[aX]at hr;have M7:=zS n (List.mem_of_getElem? hx);have hl:=BU M7;have e2:=s8 n;rw[eq_true M7]at e2;have gn:=af ef hx;obtain⟨_,_,_,l4,_,_⟩:=cO M7;refine aq (A3 d gn e2) (JJ ?_);refine ai (dA n) (λk (_:Unit)=>⟨[(1,.ref (bT p)),(2,.ptr 0 1 0 0),(4,.int .i64 j),(5,.sl ((dA n).map fR)),(6,.int .i64 k)],[⟨.loc,3,[lV eu]⟩,⟨.loc,3,[lV (iV p)]⟩]⟩) (λk q _=>((dA n).all λd=>(da p j d.name).isSome)=q.all λd=>(da p j d.name).isSome) () (by decide) CT rfl (λk x q _ dk RG hdk hq=> ?_) (λk _ ek hq=> ?_)
 ·rw[List.all_cons]at hq;have gx:=af fR RG;have e3:=e8 j x.name;have hz:((dA n).all λd=>(da p j d.name).isSome)=false->aX (qg p) 0 p.nodes=((j:Int),-1,8):=λhf=>by
   have hT:qg p j n=((j:Int),-1,8):=by unfold qg;rw[hf];rfl
   rw[hr,hT,if_neg (by simp[eu])]
  generalize (da p j x.name).getD []=rw1 at*;generalize hb:(da p j x.name).isSome=rb at*;cases rb
  ·refine aq (A4 @gL dk gx e3) (JJ ?_);all_goals exact Lo (hz hq)
  ·refine aq (A3 dk gx e3) (JJ ?_);exact⟨(),CT,hq⟩
 have hq:((dA n).all λd=>(da p j d.name).isSome)=true:=hq;have hT:qg p j n=aX (λk x=>if GW p j x then eu else((j:Int),(k:Int),8)) 0 n.eqs:=by unfold qg;rw[hq];rfl
 rw[hT]at hr;refine aq @ek (JJ ?_);refine ai n.eqs (λk (_:Unit)=>⟨[(1,.ref (bT p)),(2,.ptr 0 1 0 0),(4,.int .i64 j),(9,.int .i64 k)],[⟨.loc,3,[lV eu]⟩,⟨.loc,3,[lV (iV p)]⟩]⟩) (λk q _=>aX (λk x=>if GW p j x then eu else((j:Int),(k:Int),8)) 0 n.eqs=aX (λk x=>if GW p j x then eu else((j:Int),(k:Int),8)) k q) () (by decide) CT rfl (λk x q _ dk RG hdk Ev=> ?_) (λk _ ek2 Ev=> ?_)
 ·rw[aX]at Ev;have e5:=e9 j n x hx (List.mem_of_getElem? RG);have gx:=af kO RG;cases hc:GW p j x<;>rw[hc]at Ev e5
  ·have h7:¬(((j:Int),(k:Int),(8:Int)):Lp)=eu:=by simp[eu]
   simp only[Bool.false_eq_true,if_false]at Ev;rw[if_neg h7]at Ev;rw[Ev,if_neg h7]at hr;refine aq (A6 @gL d gn dk gx e5) (JJ ?_);all_goals exact Lo hr
  ·simp only[if_true]at Ev;refine aq (A5 d gn dk gx e5) (JJ ?_);all_goals exact⟨(),CT,Ev⟩
 ·have Ev:_=eu:=Ev;rw[Ev,if_pos rfl]at hr;refine aq (A3 d gn ek2) (JJ ?_);all_goals exact⟨(),CT,hr⟩
end
end Go.Proofs.YtcokmopocppmiaaGreat

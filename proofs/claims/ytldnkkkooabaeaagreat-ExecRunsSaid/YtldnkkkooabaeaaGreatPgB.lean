/- Programs: what may be, and what is found in them: the walk (12). -/
import Derived.Test.YtldnkkkooabaeaaGreatPgA
set_option linter.all false
set_option maxRecDepth 20000
namespace Go.Proofs.YtldnkkkooabaeaaGreat
noncomputable section
open Go.Nk
theorem dz{n:kY}(h:dA n=true):n.ins.length<=20/\n.outs.length<=20/\n.vars.length<=20/\n.eqs.length<=30/\n.name.length<=100/\∀x∈n.eqs,x.names.length<=20/\eG x.e=true:=by simp only[dA,Lz,tV,ab,BE,ir]at h;obtain⟨⟨⟨⟨⟨⟨_,a⟩,⟨_,b⟩⟩,⟨_,c⟩⟩,d⟩,e⟩,f⟩:=h;exact⟨a,b,c,d,e,λx U=>(f x U).1⟩
theorem fE{p:fc}(h:bF p=true):p.nodes.length<=10/\∀n∈p.nodes,dA n=true:=by simp only[bF,ab,BE,ir]at h;exact⟨h.1.2,h.2⟩
theorem Dt{n:kY}(h:dA n=true):(dQ n).length<=60:=by obtain⟨a,b,c,_⟩:=dz h;simp only[dQ,AS];omega
def Ct:Ab->Prop×J:=bJ tT λn=>(dA n=true,.sl ((dQ n).map gG))
theorem uU(n:kY):Ct [.agg (fe n)]=(dA n=true,.sl ((dQ n).map gG)):=aI qT _ n
theorem iw:aJ Tryz.prog 154 Ct:=by
 refine aJ.mS (ps:=[]) (I:=[]) trivial trivial aGW λn h=>?_;try dsimp only at h
 obtain⟨l1,l2,l3,_⟩:=dz h;have e:(dQ n).map gG=(n.ins.map gG++n.outs.map gG)++n.vars.map gG:=by rw[dQ,IN,IN]
 refine ao (cL @avD.eq_1 @tT.eq_1 e) (JJ ?_);all_goals first
  |(rw[vc (by simp;omega)];done)
def Jk:Ab->Prop×J:=cH bA eS λp s=>(bF p=true,.int .i64 (jx p s))
theorem Gn(p:fc)(s:B3):Jk [.agg (cE p),.str s]=(bF p=true,.int .i64 (jx p s)):=aY dY kj _ p s
def NX(k:Nat):BI->Int
 |some j=>((k+j:Nat):Int)
 |none=> -1
theorem afP{en:List En}{ns:List kY}{s:B3}:jx ⟨en,ns⟩ s=NX 0 (ns.findIdx? λn=>n.name==s):=by unfold jx;dsimp only;cases ns.findIdx? (λn=>n.name==s)<;>simp[NX]
theorem afQ{x:kY}{r:List kY}{s:B3}{k:Nat}:NX k ((x::r).findIdx? λn=>n.name==s)=if x.name=s then(k:Int)else NX (k+1) (r.findIdx? λn=>n.name==s):=by
 rw[List.findIdx?_cons];by_cases h:x.name=s
 .simp[h,NX]
 .rw[ba (by simpa using h),ba h];cases r.findIdx? (λn=>n.name==s)<;>simp[NX];omega
theorem px:aJ Tryz.prog 157 Jk:=by
 refine aJ.se (ps:=[]) (I:=[]) trivial trivial aGZ λp s h=>?_;try dsimp only at h
 obtain⟨en,ns⟩:=p;obtain⟨h1,_⟩:=fE h;dsimp only at h1;rw[afP];refine ao (bV @avG.eq_1 @bA.eq_1) (JJ ?_);refine aj ns (λk (_:Unit)=>⟨[(1,.str s),(2,.ref (cE ⟨en,ns⟩)),(5,.int .i64 k)],[]⟩) (λk r _=>NX 0 (ns.findIdx? λn=>n.name==s)=NX k (r.findIdx? λn=>n.name==s)) () (AI _) CT rfl (λk x r _ d U Z E=>?_) (λk _ e E=>?_)
 .rw[afQ]at E;refine ao (bV d (ag fe U)) (bV ?_ (JJ ?_))<;>intros;all_goals first
   |(simp_all;done)
   |exact⟨(),CT,by rw[E,ba (by simp_all)]⟩
 .have E:_=(-1:Int):=E;exact ao (bV e E) zz;all_goals rfl
def w8:Ab->Prop×J:=cH tT eS λn s=>(dA n=true,.b9 [.agg (gG ((fv n s).getD default)),.bool (fv n s).isSome])
theorem pA(n:kY)(s:B3):w8 [.agg (fe n),.str s]=(dA n=true,.b9 [.agg (gG ((fv n s).getD default)),.bool (fv n s).isSome]):=aY qT kj _ n s
theorem gO:aJ Tryz.prog 132 w8:=by
 refine aJ.se (ps:=[(154,Ct)]) (I:=[]) ⟨iw,BB⟩ trivial aGB λn s h=>?_;try dsimp only at h
 have hl:=Dt h;have Y:=uU n;rw[lU h]at Y;refine ao (cL @avt.eq_1 @tT.eq_1 Y) (JJ ?_);refine aj (dQ n) (λk (_:Unit)=>⟨[(1,.str s),(4,.ptr 0 1 0 0),(6,.sl ((dQ n).map gG)),(7,.int .i64 k)],[⟨.loc,6,[gG default]⟩]⟩) (λk r _=>fv n s=r.find? λd=>d.name==s) () (AI _) CT rfl (λk x r _ d U Z E=>?_) (λk _ e E=>?_)
 .rw[Kb]at E;refine ao (bV d (ag gG U)) (bV ?_ (JJ ?_))<;>intros;all_goals first
   |(simp_all;done)
   |exact⟨(),CT,by rw[E,show(x.name==s)=false by simp_all]⟩
 .rw[List.find?_nil]at E;refine ao (bV e E) (JJ ?_);all_goals rfl
def Jn:Ab->Prop×J:=cH tT eS λn s=>(dA n=true,.b9 [.sl (((mj n s).getD []).map gG),.bool (mj n s).isSome])
theorem azd(n:kY)(s:B3):Jn [.agg (fe n),.str s]=(dA n=true,.b9 [.sl (((mj n s).getD []).map gG),.bool (mj n s).isSome]):=aY qT kj _ n s
theorem aze:aJ Tryz.prog 103 Jn:=by
 refine aJ.se (ps:=[(132,w8)]) (I:=[]) ⟨gO,BB⟩ trivial aFZ λn s h=>?_;try dsimp only at h
 refine ao (bV @au8.eq_1 @tT.eq_1) (JJ ?_);refine iQ (λx:Nat×B3×List tN=>⟨[(1,.str x.2.1),(2,.ref (fe n)),(6,.sl (x.2.2.map gG)),(7,.int .i64 x.1)],[]⟩) (λx=>x.1<=13/\mj n s=Pb n (13-x.1) x.2.1 x.2.2/\x.2.2.length=x.1) (λx=>13-x.1) (0,s,[]) (AI _) CT ⟨AI _,rfl,rfl⟩ λx U=>?_;obtain⟨k,s',acc⟩:=x;obtain⟨hk,E,hl⟩:=U;dsimp only at hk E hl;by_cases Jc:k=13
 .have c:decide ((k:Int)<=12)=false:=Z7 (by omega);rw[Jc]at E;have E:mj n s=none:=E;refine ao (bV c E) (JJ ?_);all_goals rfl
 have c:decide ((k:Int)<=12)=true:=ON (by omega);have Y:=pA n s';rw[lU h]at Y;rw[show 13-k=(12-k)+1 by omega,Pb]at E;cases Z:fv n s' with
 |none=>
  rw[Z]at Y E;dsimp only[Option.isSome]at Y E;refine ao (cL c Y E) (JJ ?_);all_goals rfl
 |some d=>
  rw[Z]at Y E;dsimp only[Option.isSome,Option.getD]at Y E;by_cases ho:d.on=[]
  .rw[gr ho]at E;refine ao (fj c Y E ho) (JJ ?_);all_goals rfl
  .rw[ba ho]at E;refine ao (cL c Y E) (bV ?_ (JJ ?_))<;>intros;all_goals first
    |exact absurd (by assumption) ho
    |exact⟨(k+1,d.on,d::acc),by rw[vc (by simp;omega)];simp only[eH,p0,DD,cS,Nk.get_nil,Nat.reduceEqDiff,↓reduceIte,Ck,J.cut,J.qA,List.take_zero,Int.natCast_add,Int.natCast_one,p0],⟨by show k+1<=13;omega,by show _=Pb n (13-(k+1)) d.on (d::acc);congr 1;omega,by simp[hl]⟩,by show 13-(k+1)<13-k;omega⟩
def Sf:Ab->Prop×J:=bJ Vz λl=>(l.length<=60,.sl (cW (l.map (·.name))))
theorem abK(l:List tN):Sf [.sl (l.map gG)]=(l.length<=60,.sl (cW (l.map (·.name)))):=aI abL _ l
theorem aIH:aJ Tryz.prog 198 Sf:=by
 refine aJ.mS (ps:=[]) (I:=[]) trivial trivial aHC λl h=>?_;try dsimp only at h
 have h:l.length<=60:=h;refine ao (bV @awk.eq_1 @Vz.eq_1) (JJ ?_);refine aj l (λk (o:BS)=>⟨[(0,.sl (l.map gG)),(3,.own 0 o.length 0 o.length),(4,.int .i64 k)],[⟨.aV,1,cW o⟩]⟩) (λk r o=>o++r.map (·.name)=l.map (·.name)/\o.length=k) [] (AI _) CT ?_ (λk x r o d U Z E=>?_) (λk o e E=>?_)
 .exact⟨rfl,rfl⟩
 .obtain⟨r1,r2⟩:=E;refine ao (cL @ak d (ag gG U)) (JJ ?_);all_goals first
   |exact⟨o++[x.name],(CF (bV @cW.eq_1 @IN.{0,0})),by simpa using r1,by simp[r2]⟩
 .obtain⟨r1,r2⟩:=E;simp only[DD,xz]at r1;refine ao (cL @ak e @r1) (JJ ?_);all_goals first|rfl|(rw[vc (by simp[cW])];done)
def YJ:Ab->Prop×J:=bJ eS λs=>(True,.bool (Sg s))
theorem afR(s:B3):YJ [.str s]=(True,.bool (Sg s)):=aI kj _ s
theorem aII:aJ Tryz.prog 217 YJ:=by refine aJ.mS (ps:=[(208,Mf)]) (I:=[]) ⟨lI,BB⟩ trivial aHW λs _=>?_;refine ao (bV @axB.eq_1 @Du) (cL ?_ ?_ (JJ ?_))<;>intros;all_goals first|rfl|(simp_all [Sg];done)
def Si:Ab->Prop×J:=cH ky ur λl d=>(True,.bool (vG l d))
theorem abM(l:List En)(d:tN):Si [.sl (l.map kF),.agg (gG d)]=(True,.bool (vG l d)):=aY my as8 _ l d
theorem aIK:aJ Tryz.prog 209 Si:=by refine aJ.se (ps:=[(207,NY),(96,l9),(217,YJ)]) (I:=[]) ⟨iA,sU,aII,BB⟩ trivial aHO λl d _=>?_;obtain⟨nm,t,on,ct⟩:=d;have Y:=jT l t;simp only[dE]at Y;refine ao (jg @aw8.eq_1 @tC @afR @ur.eq_1 @ky.eq_1 Y) (rO ?_ ?_ ?_ ?_ ?_ ?_ (JJ ?_))<;>intros;all_goals first|rfl|(simp_all [vG];done)
def _M:Ab->Prop×J:=bJ Lq λx=>(x.names.length<=20/\eG x.e=true,.bool (Ep x))
theorem akB(x:xY):_M [.agg (me x)]=(x.names.length<=20/\eG x.e=true,.bool (Ep x)):=aI YC _ x
theorem aIL:aJ Tryz.prog 210 _M:=by
 refine aJ.mS (ps:=[(207,NY),(173,Jz)]) (I:=[]) ⟨iA,ayX,BB⟩ trivial aHP λx h=>?_;try dsimp only at h
 obtain⟨h1,h2⟩:=h;have e2:=ayW x.e;rw[lU h2]at e2;simp only[ai x.e]at e2;refine ao (bV @axa.eq_1 @Lq.eq_1) (JJ ?_);refine aj x.names (λk (_:Unit)=>⟨[(1,.ref (me x)),(3,.int .i64 k)],[]⟩) (λk r _=>r.all qk=x.names.all qk) () (AI _) CT rfl (λk y r _ d U Z E=>?_) (λk _ e E=>?_)
 .rw[MM]at E;have hy:=fN U;refine ao (fj @tC @ak d hy) (bV ?_ (JJ ?_))<;>intros;all_goals first
   |exact⟨(),CT,by rw[<-E];simp_all⟩
   |(show false=(x.names.all qk&&_&&_&&_);rw[<-E];simp_all;done)
 .have E:true=x.names.all qk:=E;have hq:Ep x=(decide (0<x.names.length)&&nj x.e&&(x.names.length==1||x.e.kind==13)):=by rw[Ep,<-E,Pd]
  rw[hq];refine ao (cL @ak e e2) (cL ?_ ?_ (JJ ?_))<;>intros;all_goals first|(simp_all;done)|grind
theorem aAt{α:Type}(f:α->Bool)(x:α)(r:List α)(m k:Nat):(List.take (m-k) (x::r)).all f=((!decide (k<m)||f x)&&(List.take (m-(k+1)) r).all f):=by
 by_cases h:k<m
 .rw[show m-k=(m-(k+1))+1 by omega,Rl,MM];simp[h]
 .rw[show m-k=0 by omega,show m-(k+1)=0 by omega];simp[h]
def Sj:Ab->Prop×J:=cH ky tT λl n=>(dA n=true,.bool (ov l n))
theorem abN(l:List En)(n:kY):Sj [.sl (l.map kF),.agg (fe n)]=(dA n=true,.bool (ov l n)):=aY my qT _ l n
theorem aIM:aJ Tryz.prog 196 Sj:=by
 refine aJ.se (ps:=[(154,Ct),(209,Si),(210,_M),(207,NY)]) (I:=[]) ⟨iw,aIK,aIL,iA,BB⟩ trivial aHA λl n h=>?_;try dsimp only at h
 have hl:=Dt h;obtain⟨l1,l2,l3,l4,l5,l6⟩:=dz h;have Y:=uU n;rw[lU h]at Y;refine ao (fj @awh.eq_1 @ky.eq_1 @tT.eq_1 Y) (JJ ?_);refine aj (dQ n) (λk (_:Unit)=>⟨[(0,.sl (l.map kF)),(3,.ref (fe n)),(5,.sl ((dQ n).map gG)),(6,.int .i64 k)],[]⟩) (λk r _=>(r.all (vG l)&&(r.take (n.ins.length+n.outs.length-k)).all λd=>d.on==[])=((dQ n).all (vG l)&&(n.ins++n.outs).all λd=>d.on==[])) () (AI _) CT ?_ (λk x r _ d U Z E=>?_) (λk _ e E=>?_)
 .have e3:(dQ n).take (n.ins.length+n.outs.length-0)=n.ins++n.outs:=by rw[dQ,Nat.sub_zero,List.take_left' (by simp)]
  show(_&&(List.take _ (dQ n)).all _)=_;rw[e3]
 .rw[MM,aAt]at E;have e2:=abM l x;have wJ:ov l n=(((dQ n).all (vG l)&&(n.ins++n.outs).all λd=>d.on==[])&&n.eqs.all Ep&&qk n.name&&decide (0<n.outs.length)):=rfl;refine ao (cL d (ag gG U) e2) (fj ?_ ?_ ?_ (JJ ?_))<;>intros;all_goals first
   |exact⟨(),CT,by rw[<-E];grind⟩
   |(rw[wJ,<-E];grind)
 .have E:true=((dQ n).all (vG l)&&(n.ins++n.outs).all λd=>d.on==[]):=by simpa using E
  have wJ:ov l n=(n.eqs.all Ep&&qk n.name&&decide (0<n.outs.length)):=by rw[ov,<-E,Pd]
  refine ao @e (JJ ?_);refine aj n.eqs (λk (_:Unit)=>⟨[(3,.ref (fe n)),(7,.int .i64 k)],[]⟩) (λk r _=>r.all Ep=n.eqs.all Ep) () (AI _) CT rfl (λk x r _ d U Z Dj=>?_) (λk _ e Dj=>?_)
  .rw[MM]at Dj;have e2:=akB x;obtain⟨aIN,aIO⟩:=l6 x (ed U);rw[lU (show x.names.length<=20/\eG x.e=true from⟨aIN,aIO⟩)]at e2;refine ao (cL d (ag me U) e2) (bV ?_ (JJ ?_))<;>intros;all_goals first
    |exact⟨(),CT,by rw[<-Dj];simp_all⟩
    |(rw[wJ,<-Dj];simp_all;done)
  .have Dj:true=n.eqs.all Ep:=Dj;rw[wJ,<-Dj];refine ao (bV @tC e) (JJ (λhn=>?_));all_goals(simp_all;done)
def Se:Ab->Prop×J:=bJ bA λp=>(bF p=true,.int .i64 (kL p))
theorem abJ(p:fc):Se [.agg (cE p)]=(bF p=true,.int .i64 (kL p)):=aI dY _ p
theorem aIP:aJ Tryz.prog 185 Se:=by
 refine aJ.mS (ps:=[(195,Sk),(196,Sj),(154,Ct),(198,Sf),(197,Sl)]) (I:=[]) ⟨aH8,aIM,iw,aIH,pE,BB⟩ trivial aHq λp h=>?_;try dsimp only at h
 obtain⟨en,ns⟩:=p;obtain⟨h1,h2⟩:=fE h;dsimp only at h1 h2;by_cases c1:pF en=0;rotate_left
 .have hz:kL ⟨en,ns⟩=pF en:=by simp[kL,c1]
  rw[hz];have WH:decide (pF en=0)=false:=Z7 c1;exact ao (cL @jA.eq_1 @xm @bA.eq_1) zz;all_goals rfl
 by_cases c2:ns.length=0
 .have hz:kL ⟨en,ns⟩=5:=by simp[kL,c1,c2]
  rw[hz];exact ao (fF @jA.eq_1 @xm @bA.eq_1 c1 c2) zz;all_goals rfl
 by_cases c3:6<ns.length
 .have hz:kL ⟨en,ns⟩=4:=by simp[kL,c1,c2,c3]
  rw[hz];have HR:¬(ns.length:Int)=0:=by omega
  have GD:(6:Int)<ns.length:=by omega
  exact ao (fF @jA.eq_1 @xm @bA.eq_1 c1 GD) zz;all_goals rfl
 have HR:¬(ns.length:Int)=0:=by omega
 have GD:¬(6:Int)<ns.length:=by omega
 have hz:kL ⟨en,ns⟩=if ns.any manyN then 4 else if !ns.all (ov en)then 1 else if !(ns.all NZ&&rW (ns.map (·.name)))then 6 else 0:=by simp only[kL,c1,c2,c3,Bv,Br,not_true_eq_false]
 rw[hz];refine ao (fF @jA.eq_1 @xm @bA.eq_1 c1 GD) (JJ (λhn=>?_));refine aj ns (λk (x:BS×Bool×Bool)=>⟨[(1,.ref (cE ⟨en,ns⟩)),(4,.own 0 x.1.length 0 x.1.length),(5,.bool x.2.1),(6,.bool x.2.2),(7,.int .i64 k)],[⟨.aV,1,cW x.1⟩]⟩) (λk r x=>(x.1++r.map (·.name)=ns.map (·.name)/\x.1.length=k)/\r.any manyN=ns.any manyN/\(x.2.1&&r.all (ov en))=ns.all (ov en)/\(x.2.2&&r.all NZ)=ns.all NZ) ([],true,true) (AI _) CT ⟨⟨rfl,rfl⟩,rfl,Pd _,Pd _⟩ (λk x r a d U Z E=>?_) (λk a e E=>?_)
 .obtain⟨o,b1,b2⟩:=a;obtain⟨⟨r1,r2⟩,r3,r4,r5⟩:=E;dsimp only at r1 r2 r4 r5;rw[Hl]at r3;rw[MM]at r4 r5;have A3:=h2 x (ed U);have e2:=abN en x;have e3:=uU x;have e4:=abK (dQ x);have e5:=Dv ((dQ x).map (·.name));have hl:=Dt A3;rw[lU A3]at e2 e3;rw[lU hl]at e4;rw[lU (show((dQ x).map (·.name)).length<=1000000000 by rw[Pe];omega)]at e5;obtain⟨m1,m2,m3,m4,_⟩:=dz A3;have hm:manyN x=(decide (6<x.ins.length)||decide (6<x.outs.length)||decide (12<x.vars.length)||decide (18<x.eqs.length)):=rfl;have ho:NZ x=rW ((dQ x).map (·.name)):=rfl;rw[<-ho]at e5;have h4:∀z:Int,manyN x=true->(4:Int)=if ns.any manyN=true then 4 else z:=λz hz=>by rw[<-r3,hz,Bool.true_or,gr rfl]
  cases b1<;>cases b2<;>simp only[C4,Pd]at r4 r5;all_goals((have aF:=IT;refine aM.of ?_);(repeat' (first|((with_reducible refine aM.to ?_);(repeat(first|(simp only[↓rP,rT,rU,aB,au,cN,cX,bw,aH,aS,DR.val,j0,fH,iD,ik,J.bl,bj,bq,cz,b8,fK,bX,dC,bc,qU,jN,J.one,alive,wA,ug,vN,bU,cellsOf,setFrom,J.D1,kM,Nat.reduceEqDiff,Nat.reduceAdd,↓reduceIte,reduceCtorEq,Nat.reduceLeDiff,Nat.reduceLT,TO,ak,d,ag fe U,e2,e3,e4,e5,ak,aF])|((simp(disch:=omega) only[qD])))))|((with_reducible refine And.intro ?_ ?_); . omega)|(((first|((with_reducible refine cP (t:= ?_) ?_ (λdp=>?_) (λdp=>?_));rotate_left; . (rfl))|((with_reducible refine bz (t:= ?_) ?_ (λdp=>?_) (λdp=>?_));rotate_left; . (rfl)))<;>(have hn:=dp;have aF:=dp)<;>(try simp only[ir,Of]at hn)<;>(refine aM.of ?_)))|fail)))
  all_goals first
   |exact h4 _ (by rw[hm];simp;omega)
   |exact⟨(o++[x.name],ov en x,NZ x),(CF (bV @cW.eq_1 @IN.{0,0})),⟨by simpa using r1,by simp[r2]⟩,by rw[<-r3,hm];simp;omega,r4,r5⟩
   |exact⟨(o++[x.name],ov en x,false),(CF (bV @cW.eq_1 @IN.{0,0})),⟨by simpa using r1,by simp[r2]⟩,by rw[<-r3,hm];simp;omega,r4,r5⟩
   |exact⟨(o++[x.name],false,NZ x),(CF (bV @cW.eq_1 @IN.{0,0})),⟨by simpa using r1,by simp[r2]⟩,by rw[<-r3,hm];simp;omega,r4,r5⟩
   |exact⟨(o++[x.name],false,false),(CF (bV @cW.eq_1 @IN.{0,0})),⟨by simpa using r1,by simp[r2]⟩,by rw[<-r3,hm];simp;omega,r4,r5⟩
 .obtain⟨o,b1,b2⟩:=a;obtain⟨⟨r1,r2⟩,r3,r4,r5⟩:=E;dsimp only at r1 r2 r4 r5;simp only[DD,xz]at r1;simp only[C1,GJ]at r4 r5;have r3:false=ns.any manyN:=r3;have e5:=Dv o;rw[lU (show o.length<=1000000000 by omega)]at e5;rw[<-r3,<-r4,<-r5,<-r1];refine ao (fj @ak @PV e e5) (cL ?_ ?_ (JJ ?_))<;>intros;all_goals(simp_all;done)
end
end Go.Proofs.YtldnkkkooabaeaaGreat

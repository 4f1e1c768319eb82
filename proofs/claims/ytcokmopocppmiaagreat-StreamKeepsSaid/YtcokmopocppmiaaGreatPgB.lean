/- Programs: what may be, and what is found in them: the walk (12). -/
import Derived.Test.YtcokmopocppmiaaGreatPgA
set_option linter.all false
set_option maxRecDepth 20000
namespace Go.Proofs.YtcokmopocppmiaaGreat
noncomputable section
open Go.Nk
theorem cO{n:kZ}(h:dH n=true):n.ins.length<=20/\n.outs.length<=20/\n.vars.length<=20/\n.eqs.length<=30/\n.name.length<=100/\∀x∈n.eqs,x.names.length<=20/\er x.e=true:=by simp only[dH,Mp,rM,Bool.and_eq_true,List.all_eq_true,decide_eq_true_eq]at h;obtain⟨⟨⟨⟨⟨⟨_,a⟩,⟨_,b⟩⟩,⟨_,c⟩⟩,d⟩,e⟩,f⟩:=h;exact⟨a,b,c,d,e,λx hx=>(f x hx).1⟩
theorem eO{p:cY}(h:bx p=true):p.nodes.length<=10/\∀n∈p.nodes,dH n=true:=by simp only[bx,Bool.and_eq_true,List.all_eq_true,decide_eq_true_eq]at h;exact⟨h.1.2,h.2⟩
theorem BU{n}(h:dH n=true):(dA n).length<=60:=by obtain⟨a,b,c,_⟩:=cO h;simp only[dA,List.length_append];omega
def AQ:List DV->Prop×DV:=bB sM λn=>(dH n=true,.sl ((dA n).map fR))
def s8(n):=show AQ [.agg (ef n)]=_ from aH px _ n
theorem gF:aF Tryz.prog 147 AQ:=by
 refine aF.mo (ps:=[]) (hs:=[]) trivial trivial JY λn h=> ?_;try dsimp only at h
 obtain⟨l1,l2,l3,_⟩:=cO h;have e:(dA n).map fR=(n.ins.map fR++n.outs.map fR)++n.vars.map fR:=by rw[dA,List.map_append,List.map_append]
 refine aq (A3 @xH.eq_1 @sM.eq_1 e) (JJ ?_);all_goals first
  |(rw[List.take_of_length_le (by simp;omega)];done)
def G2:List DV->Prop×DV:=b5 bj eS λp s=>(bx p=true,.int .i64 (iR p s))
def Eo(p)(s):=show G2 [.agg (bT p),.str s]=_ from aO dp ik _ p s
def Lu(k:Nat):Option Nat->Int
 |some j=>((k+j:Nat):Int)
 |none=> -1
theorem abX{en}{ns:List kZ}{s}:iR ⟨en,ns⟩ s=Lu 0 (ns.findIdx? λn=>n.name==s):=by unfold iR;dsimp only;cases ns.findIdx? (λn=>n.name==s)<;>simp[Lu]
theorem abY{x:kZ}{r:List kZ}{s}{k}:Lu k ((x::r).findIdx? λn=>n.name==s)=if x.name=s then(k:Int)else Lu (k+1) (r.findIdx? λn=>n.name==s):=by
 rw[List.findIdx?_cons];by_cases h:x.name=s
 ·simp[h,Lu]
 ·rw[if_neg (by simpa using h),if_neg h];cases r.findIdx? (λn=>n.name==s)<;>simp[Lu];omega
theorem nM:aF Tryz.prog 150 G2:=by
 refine aF.oU (ps:=[]) (hs:=[]) trivial trivial Hp λp s h=> ?_;try dsimp only at h
 obtain⟨en,ns⟩:=p;obtain⟨h1,_⟩:=eO h;dsimp only at h1;rw[abX];refine aq (A2 @vE.eq_1 @bj.eq_1) (JJ ?_);refine ai ns (λk (_:Unit)=>⟨[(1,.str s),(2,.ref (bT ⟨en,ns⟩)),(5,.int .i64 k)],[]⟩) (λk r _=>Lu 0 (ns.findIdx? λn=>n.name==s)=Lu k (r.findIdx? λn=>n.name==s)) () (Nat.zero_le _) CT rfl (λk x r _ d hx hd hr=> ?_) (λk _ e hr=> ?_)
 ·rw[abY]at hr;refine aq (A2 d (af ef hx)) (A2 ?_ (JJ ?_))<;>intros;all_goals first
   |(simp_all;done)
   |exact⟨(),CT,by rw[hr,if_neg (by simp_all)]⟩
 ·have hr:_=(-1:Int):=hr;exact aq (A2 e hr) zz;all_goals rfl
def vt:List DV->Prop×DV:=b5 sM eS λn s=>(dH n=true,.cy [.agg (fR ((eT n s).getD default)),.bool (eT n s).isSome])
def nR(n)(s):=show vt [.agg (ef n),.str s]=_ from aO px ik _ n s
theorem fI:aF Tryz.prog 128 vt:=by
 refine aF.oU (ps:=[(147,AQ)]) (hs:=[]) ⟨gF,trivial⟩ trivial Hq λn s h=> ?_;try dsimp only at h
 have hl:=BU h;have e1:=s8 n;rw[eq_true h]at e1;refine aq (A3 @vF.eq_1 @sM.eq_1 e1) (JJ ?_);refine ai (dA n) (λk (_:Unit)=>⟨[(1,.str s),(4,.ptr 0 1 0 0),(6,.sl ((dA n).map fR)),(7,.int .i64 k)],[⟨.loc,6,[fR default]⟩]⟩) (λk r _=>eT n s=r.find? λd=>d.name==s) () (Nat.zero_le _) CT rfl (λk x r _ d hx hd hr=> ?_) (λk _ e hr=> ?_)
 ·rw[List.find?_cons]at hr;refine aq (A2 d (af fR hx)) (A2 ?_ (JJ ?_))<;>intros;all_goals first
   |(simp_all;done)
   |exact⟨(),CT,by rw[hr,show(x.name==s)=false by simp_all]⟩
 ·rw[List.find?_nil]at hr;refine aq (A2 e hr) (JJ ?_);all_goals rfl
def G5:List DV->Prop×DV:=b5 sM eS λn s=>(dH n=true,.cy [.sl (((mQ n s).getD []).map fR),.bool (mQ n s).isSome])
def Ln(n)(s):=show G5 [.agg (ef n),.str s]=_ from aO px ik _ n s
theorem sv:aF Tryz.prog 96 G5:=by
 refine aF.oU (ps:=[(128,vt)]) (hs:=[]) ⟨fI,trivial⟩ trivial EO λn s h=> ?_;try dsimp only at h
 refine aq (A2 @ud.eq_1 @sM.eq_1) (JJ ?_);refine gT (λx:Nat×List UInt8×List rN=>⟨[(1,.str x.2.1),(2,.ref (ef n)),(6,.sl (x.2.2.map fR)),(7,.int .i64 x.1)],[]⟩) (λx=>x.1<=13/\mQ n s=MD n (13-x.1) x.2.1 x.2.2/\x.2.2.length=x.1) (λx=>13-x.1) (0,s,[]) (Nat.zero_le _) CT ⟨Nat.zero_le _,rfl,rfl⟩ λx hx=> ?_;obtain⟨k,s',acc⟩:=x;obtain⟨hk,hr,hl⟩:=hx;dsimp only at hk hr hl;by_cases Cy:k=13
 ·have c:decide ((k:Int)<=12)=false:=decide_eq_false (by omega);rw[Cy]at hr;have hr:mQ n s=none:=hr;refine aq (A2 c hr) (JJ ?_);all_goals rfl
 have c:decide ((k:Int)<=12)=true:=decide_eq_true (by omega);have e1:=nR n s';rw[eq_true h]at e1;rw[show 13-k=(12-k)+1 by omega,MD]at hr;cases hd:eT n s' with
 |none=>
  rw[hd]at e1 hr;dsimp only[Option.isSome]at e1 hr;refine aq (A3 c e1 hr) (JJ ?_);all_goals rfl
 |some d=>
  rw[hd]at e1 hr;dsimp only[Option.isSome,Option.getD]at e1 hr;by_cases ho:d.on=[]
  ·rw[if_pos ho]at hr;refine aq (A4 c e1 hr ho) (JJ ?_);all_goals rfl
  ·rw[if_neg ho]at hr;refine aq (A3 c e1 hr) (A2 ?_ (JJ ?_))<;>intros;all_goals first
    |exact absurd (by assumption) ho
    |exact⟨(k+1,d.on,d::acc),by rw[List.take_of_length_le (by simp;omega)];simp only[dK,List.map_cons,List.map_nil,cw,Nk.get_nil,Nat.reduceEqDiff,↓reduceIte,Nat.succ_ne_self,DV.cut,DV.rR,List.take_zero,Int.natCast_add,Int.natCast_one,List.map_cons],⟨by show k+1<=13;omega,by show _=MD n (13-(k+1)) d.on (d::acc);congr 1;omega,by simp[hl]⟩,by show 13-(k+1)<13-k;omega⟩
def O3:List DV->Prop×DV:=bB Ya λl=>(l.length<=60,.sl (dI (l.map (·.name))))
def Yb(l:List rN):=show O3 [.sl (l.map fR)]=_ from aH Yc _ l
theorem CO:aF Tryz.prog 195 O3:=by
 refine aF.mo (ps:=[]) (hs:=[]) trivial trivial EP λl h=> ?_;try dsimp only at h
 have h:l.length<=60:=h;refine aq (A2 @ue.eq_1 @Ya.eq_1) (JJ ?_);refine ai l (λk (o:List (List UInt8))=>⟨[(0,.sl (l.map fR)),(3,.own 0 o.length 0 o.length),(4,.int .i64 k)],[⟨.aN,1,dI o⟩]⟩) (λk r o=>o++r.map (·.name)=l.map (·.name)/\o.length=k) [] (Nat.zero_le _) CT ?_ (λk x r o d hx hd hr=> ?_) (λk o e hr=> ?_)
 ·exact⟨rfl,rfl⟩
 ·obtain⟨r1,r2⟩:=hr;refine aq (A3 @aj d (af fR hx)) (JJ ?_);all_goals first
   |exact⟨o++[x.name],(CF (A2 @dI.eq_1 @List.map_append.{0,0})),by simpa using r1,by simp[r2]⟩
 ·obtain⟨r1,r2⟩:=hr;simp only[List.map_nil,List.append_nil]at r1;refine aq (A3 @aj e @r1) (JJ ?_);all_goals first|rfl|(rw[List.take_of_length_le (by simp[dI])];done)
def Vq:List DV->Prop×DV:=bB eS λs=>(True,.bool (Vr s))
def abZ(s):=show Vq [.str s]=_ from aH ik _ s
theorem Hr:aF Tryz.prog 214 Vq:=by refine aF.mo (ps:=[(205,JZ)]) (hs:=[]) ⟨kp,trivial⟩ trivial J0 λs _=> ?_;refine aq (A2 @xI.eq_1 @BV) (A3 ?_ ?_ (JJ ?_))<;>intros;all_goals first|rfl|(simp_all [Vr];done)
def O4:List DV->Prop×DV:=b5 lN arL λl d=>(True,.bool (wH l d))
def Yd(l:List En)(d):=show O4 [.sl (l.map jQ),.agg (fR d)]=_ from aO mr an8 _ l d
theorem ER:aF Tryz.prog 206 O4:=by refine aF.oU (ps:=[(204,Lv),(59,oE),(214,Vq)]) (hs:=[]) ⟨gI,wK,Hr,trivial⟩ trivial Hs λl d _=> ?_;obtain⟨nm,t,on,ct⟩:=d;have e1:=py l t;simp only[cK]at e1;refine aq (A6 @vG.eq_1 @rh @abZ @arL.eq_1 @lN.eq_1 e1) (A7 ?_ ?_ ?_ ?_ ?_ ?_ (JJ ?_))<;>intros;all_goals first|rfl|(simp_all [wH];done)
def ab0:List DV->Prop×DV:=bB Mw λx=>(x.names.length<=20/\er x.e=true,.bool (Et x))
def agq(x:wq):=show ab0 [.agg (kO x)]=_ from aH Vi _ x
theorem J1:aF Tryz.prog 207 ab0:=by
 refine aF.mo (ps:=[(204,Lv),(169,Hf)]) (hs:=[]) ⟨gI,sw,trivial⟩ trivial ME λx h=> ?_;try dsimp only at h
 obtain⟨h1,h2⟩:=h;have e2:=Lq x.e;rw[eq_true h2]at e2;simp only[ag x.e]at e2;refine aq (A2 @zC.eq_1 @Mw.eq_1) (JJ ?_);refine ai x.names (λk (_:Unit)=>⟨[(1,.ref (kO x)),(3,.int .i64 k)],[]⟩) (λk r _=>r.all pz=x.names.all pz) () (Nat.zero_le _) CT rfl (λk y r _ d hx hd hr=> ?_) (λk _ e hr=> ?_)
 ·rw[List.all_cons]at hr;have hy:=fk hx;refine aq (A4 @rh @aj d hy) (A2 ?_ (JJ ?_))<;>intros;all_goals first
   |exact⟨(),CT,by rw[<-hr];simp_all⟩
   |(show false=(x.names.all pz&&_&&_&&_);rw[<-hr];simp_all;done)
 ·have hr:true=x.names.all pz:=hr;have hq:Et x=(decide (0<x.names.length)&&mV x.e&&(x.names.length==1||x.e.kind==13)):=by rw[Et,<-hr,Bool.true_and]
  rw[hq];refine aq (A3 @aj e e2) (A3 ?_ ?_ (JJ ?_))<;>intros;all_goals first|(simp_all;done)|grind
theorem auR{α}(f:α->Bool)(x:α)(r)(m k):(List.take (m-k) (x::r)).all f=((!decide (k<m)||f x)&&(List.take (m-(k+1)) r).all f):=by
 by_cases h:k<m
 ·rw[show m-k=(m-(k+1))+1 by omega,List.take_succ_cons,List.all_cons];simp[h]
 ·rw[show m-k=0 by omega,show m-(k+1)=0 by omega];simp[h]
def O5:List DV->Prop×DV:=b5 lN sM λl n=>(dH n=true,.bool (nO l n))
def Ye(l:List En)(n):=show O5 [.sl (l.map jQ),.agg (ef n)]=_ from aO mr px _ l n
theorem ES:aF Tryz.prog 193 O5:=by
 refine aF.oU (ps:=[(147,AQ),(206,O4),(207,ab0),(204,Lv)]) (hs:=[]) ⟨gF,ER,J1,gI,trivial⟩ trivial Ht λl n h=> ?_;try dsimp only at h
 have hl:=BU h;obtain⟨l1,l2,l3,l4,l5,l6⟩:=cO h;have e1:=s8 n;rw[eq_true h]at e1;refine aq (A4 @vH.eq_1 @lN.eq_1 @sM.eq_1 e1) (JJ ?_);refine ai (dA n) (λk (_:Unit)=>⟨[(0,.sl (l.map jQ)),(3,.ref (ef n)),(5,.sl ((dA n).map fR)),(6,.int .i64 k)],[]⟩) (λk r _=>(r.all (wH l)&&(r.take (n.ins.length+n.outs.length-k)).all λd=>d.on==[])=((dA n).all (wH l)&&(n.ins++n.outs).all λd=>d.on==[])) () (Nat.zero_le _) CT ?_ (λk x r _ d hx hd hr=> ?_) (λk _ e hr=> ?_)
 ·have e3:(dA n).take (n.ins.length+n.outs.length-0)=n.ins++n.outs:=by rw[dA,Nat.sub_zero,List.take_left' (by simp)]
  show(_&&(List.take _ (dA n)).all _)=_;rw[e3]
 ·rw[List.all_cons,auR]at hr;have e2:=Yd l x;have zK:nO l n=(((dA n).all (wH l)&&(n.ins++n.outs).all λd=>d.on==[])&&n.eqs.all Et&&pz n.name&&decide (0<n.outs.length)):=rfl;refine aq (A3 d (af fR hx) e2) (A4 ?_ ?_ ?_ (JJ ?_))<;>intros;all_goals first
   |exact⟨(),CT,by rw[<-hr];grind⟩
   |(rw[zK,<-hr];grind)
 ·have hr:true=((dA n).all (wH l)&&(n.ins++n.outs).all λd=>d.on==[]):=by simpa using hr
  have zK:nO l n=(n.eqs.all Et&&pz n.name&&decide (0<n.outs.length)):=by rw[nO,<-hr,Bool.true_and]
  refine aq @e (JJ ?_);refine ai n.eqs (λk (_:Unit)=>⟨[(3,.ref (ef n)),(7,.int .i64 k)],[]⟩) (λk r _=>r.all Et=n.eqs.all Et) () (Nat.zero_le _) CT rfl (λk x r _ d hx hd IW=> ?_) (λk _ e IW=> ?_)
  ·rw[List.all_cons]at IW;have e2:=agq x;obtain⟨l7,l8⟩:=l6 x (List.mem_of_getElem? hx);rw[eq_true (show x.names.length<=20/\er x.e=true from⟨l7,l8⟩)]at e2;refine aq (A3 d (af kO hx) e2) (A2 ?_ (JJ ?_))<;>intros;all_goals first
    |exact⟨(),CT,by rw[<-IW];simp_all⟩
    |(rw[zK,<-IW];simp_all;done)
  ·have IW:true=n.eqs.all Et:=IW;rw[zK,<-IW];refine aq (A2 @rh e) (JJ (λhn=> ?_));all_goals(simp_all;done)
def O2:List DV->Prop×DV:=bB bj λp=>(bx p=true,.int .i64 (kj p))
def X9(p):=show O2 [.agg (bT p)]=_ from aH dp _ p
theorem CN:aF Tryz.prog 182 O2:=by
 refine aF.mo (ps:=[(192,O6),(193,O5),(147,AQ),(195,O3),(194,O7)]) (hs:=[]) ⟨CP,ES,gF,CO,nV,trivial⟩ trivial ET λp h=> ?_;try dsimp only at h
 obtain⟨en,ns⟩:=p;obtain⟨h1,h2⟩:=eO h;dsimp only at h1 h2;by_cases c1:qm en=0;rotate_left
 ·have hz:kj ⟨en,ns⟩=qm en:=by simp[kj,c1]
  rw[hz];have c1':=decide_eq_false c1;exact aq (A3 @iL.eq_1 @vI @bj.eq_1) zz;all_goals rfl
 by_cases c2:ns.length=0
 ·have hz:kj ⟨en,ns⟩=5:=by simp[kj,c1,c2]
  rw[hz];exact aq (A5 @iL.eq_1 @vI @bj.eq_1 c1 c2) zz;all_goals rfl
 by_cases c3:6<ns.length
 ·have hz:kj ⟨en,ns⟩=4:=by simp[kj,c1,c2,c3]
  rw[hz];have c2':¬(ns.length:Int)=0:=by omega
  have c3':(6:Int)<ns.length:=by omega
  exact aq (A5 @iL.eq_1 @vI @bj.eq_1 c1 c3') zz;all_goals rfl
 have c2':¬(ns.length:Int)=0:=by omega
 have c3':¬(6:Int)<ns.length:=by omega
 have hz:kj ⟨en,ns⟩=if ns.any manyN then 4 else if !ns.all (nO en)then 1 else if !(ns.all Lw&&ri (ns.map (·.name)))then 6 else 0:=by simp only[kj,c1,c2,c3,if_false,ne_eq,not_true_eq_false]
 rw[hz];refine aq (A5 @iL.eq_1 @vI @bj.eq_1 c1 c3') (JJ (λhn=> ?_));refine ai ns (λk (x:List (List UInt8)×Bool×Bool)=>⟨[(1,.ref (bT ⟨en,ns⟩)),(4,.own 0 x.1.length 0 x.1.length),(5,.bool x.2.1),(6,.bool x.2.2),(7,.int .i64 k)],[⟨.aN,1,dI x.1⟩]⟩) (λk r x=>(x.1++r.map (·.name)=ns.map (·.name)/\x.1.length=k)/\r.any manyN=ns.any manyN/\(x.2.1&&r.all (nO en))=ns.all (nO en)/\(x.2.2&&r.all Lw)=ns.all Lw) ([],true,true) (Nat.zero_le _) CT ⟨⟨rfl,rfl⟩,rfl,Bool.true_and _,Bool.true_and _⟩ (λk x r a d hx hd hr=> ?_) (λk a e hr=> ?_)
 ·obtain⟨o,b1,b2⟩:=a;obtain⟨⟨r1,r2⟩,r3,r4,r5⟩:=hr;dsimp only at r1 r2 r4 r5;rw[List.any_cons]at r3;rw[List.all_cons]at r4 r5;have re:=h2 x (List.mem_of_getElem? hx);have e2:=Ye en x;have e3:=s8 x;have e4:=Yb (dA x);have e5:=BW ((dA x).map (·.name));have hl:=BU re;rw[eq_true re]at e2 e3;rw[eq_true hl]at e4;rw[eq_true (show((dA x).map (·.name)).length<=1000000000 by rw[List.length_map];omega)]at e5;obtain⟨m1,m2,m3,m4,_⟩:=cO re;have hm:manyN x=(decide (6<x.ins.length)||decide (6<x.outs.length)||decide (12<x.vars.length)||decide (18<x.eqs.length)):=rfl;have ho:Lw x=ri ((dA x).map (·.name)):=rfl;rw[<-ho]at e5;have h4:∀z:Int,manyN x=true->(4:Int)=if ns.any manyN=true then 4 else z:=λz hz=>by rw[<-r3,hz,Bool.true_or,if_pos rfl]
  cases b1<;>cases b2<;>simp only[Bool.false_and,Bool.true_and]at r4 r5;all_goals((have az:=Bool.and_self;refine aL.of ?_);(repeat' (first|((with_reducible refine aL.to ?_);(repeat(first|(simp only[↓rP,rT,rU,aC,aw,cI,cS,bA,aI,aW,DR.val,jB,fx,iq,hH,DV.aY,bh,bn,cn,bX,fy,bW,dE,bf,sN,lY,DV.one,alive,xJ,tJ,wL,bU,cellsOf,setFrom,DV.isU,kT,Nat.reduceEqDiff,Nat.reduceAdd,↓reduceIte,reduceCtorEq,Nat.reduceLeDiff,Nat.reduceLT,forall_const,aj,d,af ef hx,e2,e3,e4,e5,aj,az])|((simp(disch:=omega) only[tH])))))|((with_reducible refine And.intro ?_ ?_); . omega)|(((first|((with_reducible refine cN (t:= ?_) ?_ (λcZ=> ?_) (λcZ=> ?_));rotate_left; . (rfl))|((with_reducible refine bt (t:= ?_) ?_ (λcZ=> ?_) (λcZ=> ?_));rotate_left; . (rfl)))<;>(have hn:=cZ;have az:=cZ)<;>(try simp only[decide_eq_true_eq,decide_eq_false_iff_not]at hn)<;>(refine aL.of ?_)))|fail)))
  all_goals first
   |exact h4 _ (by rw[hm];simp;omega)
   |exact⟨(o++[x.name],nO en x,Lw x),(CF (A2 @dI.eq_1 @List.map_append.{0,0})),⟨by simpa using r1,by simp[r2]⟩,by rw[<-r3,hm];simp;omega,r4,r5⟩
   |exact⟨(o++[x.name],nO en x,false),(CF (A2 @dI.eq_1 @List.map_append.{0,0})),⟨by simpa using r1,by simp[r2]⟩,by rw[<-r3,hm];simp;omega,r4,r5⟩
   |exact⟨(o++[x.name],false,Lw x),(CF (A2 @dI.eq_1 @List.map_append.{0,0})),⟨by simpa using r1,by simp[r2]⟩,by rw[<-r3,hm];simp;omega,r4,r5⟩
   |exact⟨(o++[x.name],false,false),(CF (A2 @dI.eq_1 @List.map_append.{0,0})),⟨by simpa using r1,by simp[r2]⟩,by rw[<-r3,hm];simp;omega,r4,r5⟩
 ·obtain⟨o,b1,b2⟩:=a;obtain⟨⟨r1,r2⟩,r3,r4,r5⟩:=hr;dsimp only at r1 r2 r4 r5;simp only[List.map_nil,List.append_nil]at r1;simp only[List.all_nil,Bool.and_true]at r4 r5;have r3:false=ns.any manyN:=r3;have e5:=BW o;rw[eq_true (show o.length<=1000000000 by omega)]at e5;rw[<-r3,<-r4,<-r5,<-r1];refine aq (A4 @aj @Vs e e5) (A3 ?_ ?_ (JJ ?_))<;>intros;all_goals(simp_all;done)
end
end Go.Proofs.YtcokmopocppmiaaGreat

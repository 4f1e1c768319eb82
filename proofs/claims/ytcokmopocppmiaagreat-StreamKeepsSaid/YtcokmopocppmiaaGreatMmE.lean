/- Cells: paths and what they have. -/
import Derived.Test.YtcokmopocppmiaaGreatVls
set_option linter.all false
set_option maxRecDepth 20000
namespace Go.Proofs.YtcokmopocppmiaaGreat
noncomputable section
open Go.Nk
structure cW where
 path:List UInt8
 dL:List Int
 deriving DecidableEq
instance:Inhabited cW:=⟨⟨[],[]⟩⟩
@[reducible] def aT(c:cW):List DV:=[.str c.path,.sl (cX c.dL)]
theorem qR:∀x y,aT x=aT y->x=y:=λx y h=>by obtain⟨a,b⟩:=x;obtain⟨c,d⟩:=y;simp only[aT,List.cons.injEq,DV.str.injEq,DV.sl.injEq,and_true]at h;obtain⟨rfl,h⟩:=h;rw[sH h]
abbrev adl:cW->DV:=eA aT
theorem Wg:rJ adl:=zq qR
abbrev cT:List cW->DV:=eL aT
theorem gQ:rJ cT:=Al qR
def Sm(l:List cW):=show(∀e∈l.map aT,e.length=2)=_ from eq_true (by simp)
def ze(l:List cW):=show(l.map aT).take l.length=_ from List.take_of_length_le (by rw[List.length_map];exact Nat.le_refl _)
def ji(l:List cW):Prop:=l.length<=1000000/\∀c∈l,c.dL.length<=17592186044416
def MZ:List DV->Prop×DV:=b5 cT cT λa b=>(ji a,.bool (decide (a=b)))
def NS(a:List cW)(b:List cW):=show MZ [.sl (a.map aT),.sl (b.map aT)]=_ from aO gQ gQ _ a b
theorem aaf{a b:List cW}{k}{x y}{r}(h:decide (x::r=y::b.drop (k+1))=decide (a=b))(hx:x≠y):a≠b:=by intro e;have:decide (a=b)=true:=decide_eq_true e;rw[this]at h;simp only[decide_eq_true_eq,List.cons.injEq]at h;exact hx h.1
theorem tC:aF Tryz.prog 13 MZ:=by
 refine aF.oU (ps:=[(29,adn)]) (hs:=[]) ⟨FX,trivial⟩ trivial HI λa b h=> ?_;try dsimp only at h
 obtain⟨h1,h2⟩:=h;by_cases c:a.length=b.length;rotate_left
 ·have c2:decide (a=b)=false:=by simp;intro e;rw[e]at c;exact c rfl
  exact aq (A3 @pB.eq_1 @cT.eq_1 c2) zz
 refine aq (A2 @pB.eq_1 @cT.eq_1) (JJ (λhn=> ?_));refine ai a (λk (_:Unit)=>⟨[(0,.sl (a.map aT)),(1,.sl (b.map aT)),(5,.int .i64 k)],[]⟩) (λk r _=>decide (r=b.drop k)=decide (a=b)) () (Nat.zero_le _) CT rfl (λk x r _ d hx hd hr=> ?_) (λk _ e hr=> ?_)
 ·obtain⟨y,hy,N1⟩:=dP b (k:=k) (by omega);rw[N1]at hr;have d2:k<b.length:=by omega
  have hv:=h2 x (mc hd);refine aq (A5 @ahD d d2 (af aT hx) (af aT hy)) (A3 ?_ ?_ (JJ ?_))<;>intros;all_goals first
   |exact⟨(),CT,by rw[<-hr];cases x;cases y;simp_all⟩
   |(have:=aaf hr (by rintro rfl;simp_all)
     simp[this])
 ·rw[List.drop_of_length_le (by omega)]at hr;exact aq (A2 e (Eq.symm hr)) zz
def rD:List DV->Prop×DV:=bB m6 λv=>(v.length<=17592186044416,.sl (cX v))
def rE(v:List Int):=show rD [.sl (cX v)]=_ from aH mq _ v
theorem qN:aF Tryz.prog 87 rD:=by
 refine aF.mo (ps:=[]) (hs:=[]) trivial trivial VH λv h=> ?_;try dsimp only at h
 have h:v.length<=17592186044416:=h;have hd:List.drop v.length (cX (List.replicate v.length 0))=[]:=List.drop_of_length_le (by simp[aV]);exact aq (A9 @HL.eq_1 @m6.eq_1 @aV @BN @Uo @aoi @Nat.min_self hd @List.append_nil.{0}) zz
def sV(s p:List UInt8):Bool:=p.isPrefixOf s
theorem IA{s p:List UInt8}:sV s p=true↔s.take p.length=p:=by rw[sV,List.isPrefixOf_iff_prefix,List.prefix_iff_eq_take];exact⟨Eq.symm,Eq.symm⟩
theorem TI{s p:List UInt8}(h:p.length<=s.length):(s.take p.length==p)=sV s p:=by rw[Bool.eq_iff_iff,IA,beq_iff_eq]
theorem FY{s p:List UInt8}(h:s.length<p.length):sV s p=false:=by rw[Bool.eq_false_iff];intro hh;have:=congrArg List.length (IA.1 hh);simp at this;omega
def Bz:List DV->Prop×DV:=b5 eS eS λs p=>(True,.bool (sV s p))
def BB(s)(p):=show Bz [.str s,.str p]=_ from aO ik ik _ s p
theorem oS:aF Tryz.prog 181 Bz:=by
 refine aF.oU (ps:=[]) (hs:=[]) trivial trivial pF λs p _=> ?_;by_cases q:p.length<=s.length
 ·have e:=TI q;exact aq (A4 @fe.eq_1 @qM.eq_def @eG.eq_def e) zz;all_goals first|omega|rfl|skip
 ·have e:=FY (s:=s) (p:=p) (by omega);exact aq (A2 @fe.eq_1 e) zz
def Qu(s p:List UInt8):List UInt8:=if sV s p then s.drop p.length else s
def oJ:List DV->Prop×DV:=b5 eS eS λs p=>(True,.cy [.str (Qu s p),.bool (sV s p)])
def uK(s)(p):=show oJ [.str s,.str p]=_ from aO ik ik _ s p
theorem ame{s p:List UInt8}(h:sV s p=true):p.length<=s.length:=by
 rcases Nat.lt_or_ge s.length p.length with h1|h1
 ·rw[FY h1]at h;cases h
 ·exact h1
theorem oT:aF Tryz.prog 161 oJ:=by
 refine aF.oU (ps:=[(181,Bz)]) (hs:=[]) ⟨oS,trivial⟩ trivial pE λs p _=> ?_;cases q:sV s p
 ·exact aq (A4 @fc.eq_1 @BB q @Qu.eq_1) zz
 ·have:=ame q;have tk:s.take s.length=s:=List.take_length;exact aq (A7 @fc.eq_1 @BB q @Qu.eq_1 @qM.eq_def @eG.eq_def tk) zz
theorem rF:aF Tryz.prog 142 oJ:=by refine aF.oU (ps:=[(161,oJ)]) (hs:=[]) ⟨oT,trivial⟩ trivial C0 λs p _=> ?_;exact aq (A2 @sB.eq_1 @uK) zz
def under(name:List UInt8):List UInt8:=name++[47]
def BC(s name:List UInt8):List UInt8:=if sV s (under name)then s.drop (name.length+1)else []
def Wh:List DV->Prop×DV:=b5 eS eS λs name=>(s.length<=4503599627370496/\name.length<=1000000,.cy [.str (BC s name),.bool (sV s (under name))])
def TJ(s:List UInt8)(name:List UInt8):=show Wh [.str s,.str name]=_ from aO ik ik _ s name
theorem uL:aF Tryz.prog 145 Wh:=by
 refine aF.oU (ps:=[]) (hs:=[]) trivial trivial HS λs name h=> ?_;try dsimp only at h
 obtain⟨h1,h2⟩:=h;have hl:(under name).length=name.length+1:=by simp[under]
 by_cases q:name.length+1<=s.length;rotate_left
 ·have e:=FY (s:=s) (p:=under name) (by omega);exact aq (A3 @lz.eq_1 e @BC.eq_1) zz
 have e:=TI (s:=s) (p:=under name) (by omega);rw[hl]at e;have e2:(List.take (name.length+1) s==name++[47])=sV s (under name):=e;have tk:s.take s.length=s:=List.take_length;have i1:((name.length:Int)+1).toNat=name.length+1:=by omega
 cases qq:sV s (under name)
 ·rw[qq]at e2;exact aq (A8 @lz.eq_1 @qM.eq_def @eG.eq_def e2 i1 @BC.eq_1 qq @iI.eq_1) zz
 ·rw[qq]at e2;exact aq (A9 @lz.eq_1 @qM.eq_def @eG.eq_def e2 i1 @BC.eq_1 qq tk @iI.eq_1) zz
def rC:List cW->List UInt8->Option (List Int)
 |[],_=>none
 |c::r,p=>if c.path=p then some c.dL else rC r p
def zL(m:List cW)(p:List UInt8):List Int:=(rC m p).getD []
def Wi(m:List cW)(p:List UInt8):Bool:=(rC m p).isSome
def N9:List DV->Prop×DV:=b5 cT eS λm p=>(ji m,.cy [.sl (cX (zL m p)),.bool (Wi m p)])
def GG(m:List cW)(p):=show N9 [.sl (m.map aT),.str p]=_ from aO gQ ik _ m p
theorem vd:aF Tryz.prog 81 N9:=by
 refine aF.oU (ps:=[]) (hs:=[]) trivial trivial Kq λm p h=> ?_;try dsimp only at h
 obtain⟨h1,h2⟩:=h;refine aq (A2 @xT.eq_1 @cT.eq_1) (JJ ?_);refine ai m (λk (_:Unit)=>⟨[(0,.sl (m.map aT)),(1,.str p),(6,.int .i64 k)],[]⟩) (λk r _=>rC r p=rC m p) () (Nat.zero_le _) CT rfl (λk x r _ d hx hd hr=> ?_) (λk _ e hr=> ?_)
 ·simp only[rC]at hr;refine aq (A2 d (af aT hx)) (A2 (λhn=> ?_) (JJ (λhn=> ?_)));all_goals first
   |(rw[if_pos (by first|exact hn|simpa using hn)]at hr
     simp[zL,Wi,<-hr];done)
   |(rw[if_neg (by first|exact hn|simpa using hn)]at hr
     exact⟨(),CT,hr⟩)
 ·simp only[rC]at hr;refine aq (A6 e @zL.eq_1 @Wi.eq_1 (Eq.symm hr) @Option.getD_none.{0} @Option.isSome_none.{0}) (JJ ?_);all_goals rfl
@[reducible] def eRM(s:List UInt8):DV:= .ref [.str s]
theorem UF:rJ eRM:=λ_ _ h=>by simpa[eRM]using h
@[reducible] def afh(s:List Int):DV:= .ref [.sl (cX s)]
theorem amf:rJ afh:=λ_ _ h=>sH (by simpa[afh]using h)
@[reducible] def ado(s:List cW):DV:= .ref [.sl (s.map aT)]
theorem ahE:rJ ado:=λx y h=>by injection h with h;injection h with h _;injection h with h;exact map_inj qR _ _ h
def adp:List DV->Prop×DV:=b5 adl eRM λc p=>(True,.bool (decide (c.path=p)))
def ahF(c:cW)(p):=show adp [.agg (aT c),.ref [.str p]]=_ from aO Wg UF _ c p
theorem Wj:aF Tryz.prog 141 adp:=by refine aF.oU (ps:=[]) (hs:=[]) trivial trivial YG λc p _=> ?_;refine aq (A3 @LF.eq_1 @adl.eq_1 @eRM.eq_1) (JJ ?_);all_goals(rw[Bool.eq_iff_iff];simp)
@[reducible] def NA(s:List UInt8):DV:= .clo 141 [.ref [.str s]]
theorem adq:rJ NA:=λ_ _ h=>by simpa[NA]using h
def ixO(m:List cW)(p:List UInt8):Option Nat:=m.findIdx? λc=>decide (c.path=p)
def ixI(m:List cW)(p:List UInt8):Int:=match ixO m p with|some k=>k|none=> -1
def asV:List DV->Prop×DV:=b5 cT NA λm p=>(m.length<=1000000,.int .i64 (ixI m p))
def apg(m:List cW)(p):=show asV [.sl (m.map aT),.clo 141 [.ref [.str p]]]=_ from aO gQ adq _ m p
theorem mB:aF Tryz.prog 140 asV:=by
 refine aF.oU (ps:=[(141,adp)]) (hs:=[]) ⟨Wj,trivial⟩ trivial mZ λm p h=> ?_;try dsimp only at h
 have h:m.length<=1000000:=h;refine aq (A3 @gW.eq_1 @cT.eq_1 @NA.eq_1) (JJ ?_);refine ai m (λk (_:Unit)=>⟨[(0,.sl (m.map aT)),(1,.clo 141 [.ref [.str p]]),(7,.int .i64 m.length),(8,.int .i64 k)],[]⟩) (λk r _=>(r.findIdx? λc=>decide (c.path=p)).map (·+k)=ixO m p) () (Nat.zero_le _) CT (by simp[ixO]) (λk x r _ d hx hd hr=> ?_) (λk _ e hr=> ?_)
 ·rw[List.findIdx?_cons]at hr;have e1:=ahF x p;simp only[aT]at e1;refine aq (A3 d (af aT hx) e1) (A2 (λhn=> ?_) (JJ (λhn=> ?_)));all_goals first
   |(have e:x.path=p:=by first|exact hn|simpa using hn
     simp[e]at hr;simp[ixI,<-hr];done)
   |(have e:x.path≠p:=by first|exact hn|simpa using hn
     refine⟨(),CT,?_⟩;simp[e]at hr;rw[<-hr];congr 1;funext y;simp;omega)
 ·simp only[List.findIdx?_nil,Option.map_none]at hr;exact aq (A3 e @ixI.eq_def (Eq.symm hr)) zz
theorem amg:∀{m:List cW} {p:List UInt8} {k:Nat},ixO m p=some k->∃c,m[k]? =some c/\rC m p=some c.dL
 |[],p,k,h=>by simp[ixO]at h
 |c::m,p,k,h=>by
  unfold ixO at h;rw[List.findIdx?_cons]at h;by_cases e:c.path=p
  ·simp[e]at h;subst h;exact⟨c,rfl,by simp[rC,e]⟩
  ·simp[e]at h;obtain⟨j,h1,rfl⟩:=h;obtain⟨c',h2,h3⟩:=amg (m:=m) (p:=p) (k:=j) h1;exact⟨c',by simpa using h2,by simp[rC,e,h3]⟩
theorem afi:∀{m:List cW} {p:List UInt8},ixO m p=none->rC m p=none
 |[],p,h=>rfl
 |c::m,p,h=>by
  unfold ixO at h;rw[List.findIdx?_cons]at h;by_cases e:c.path=p
  ·simp[e]at h
  ·simp only[e,decide_false,Bool.false_eq_true,if_false,Option.map_eq_none_iff]at h;simp only[rC,e,if_false];exact afi h
theorem Oi:aF Tryz.prog 105 N9:=by
 refine aF.oU (ps:=[(140,asV),(87,rD)]) (hs:=[]) ⟨mB,qN,trivial⟩ trivial agG λm p h=> ?_;try dsimp only at h
 obtain⟨h1,h2⟩:=h;have e1:=apg m p;rw[eq_true (show m.length<=1000000 from h1)]at e1;cases q:ixO m p with
 |none=>
  have g:=afi q;simp only[ixI,q]at e1;refine aq (A8 @Kr.eq_1 @cT.eq_1 e1 @zL.eq_1 @Wi.eq_1 g @Option.getD_none.{0} @Option.isSome_none.{0}) (JJ ?_);all_goals rfl
 |some k=>
  obtain⟨c,hc,g⟩:=amg q;have d:=(List.getElem?_eq_some_iff.1 hc).1;have hv:=h2 c (List.mem_of_getElem? hc);simp only[ixI,q]at e1;exact aq (A9 @Kr.eq_1 @rE @cT.eq_1 e1 d (af aT hc) @zL.eq_1 @Wi.eq_1 (A3 g @Option.getD_some.{0} @Option.isSome_some.{0})) zz
inductive Trn where
 |put (p:List UInt8) (v:List Int)
 |over (name:List UInt8) (sub:List cW)
@[reducible] def FZ:Trn->DV
  | .put p v=> .clo 112 [.ref [.str p],.ref [.sl (cX v)]]
  | .over n s=> .clo 143 [.ref [.str n],.ref [.sl (s.map aT)]]
theorem aph:rJ FZ:=by
 rintro(⟨p,v⟩|⟨n,s⟩) (⟨p',v'⟩|⟨n',s'⟩) h
 ·simp only[FZ,DV.clo.injEq,true_and,List.cons.injEq,DV.ref.injEq,DV.str.injEq,DV.sl.injEq,and_true]at h;obtain⟨rfl,h⟩:=h;rw[sH h]
 ·simp[FZ]at h
 ·simp[FZ]at h
 ·simp only[FZ,DV.clo.injEq,true_and,List.cons.injEq,DV.ref.injEq,DV.str.injEq,DV.sl.injEq,and_true]at h;obtain⟨rfl,h⟩:=h;rw[map_inj qR _ _ h]
def BD(name:List UInt8)(sub:List cW)(c:cW):List Int:=if sV c.path (under name)&&Wi sub (Qu c.path (under name))then zL sub (Qu c.path (under name))else c.dL
def F4(p:List UInt8)(v:List Int)(c:cW):List Int:=if c.path=p then v else c.dL
def Wk:Trn->cW->List Int
 | .put p v=>F4 p v
 | .over n s=>BD n s
def awu:Trn->Prop
 | .put _ v=>v.length<=1000000
 | .over n s=>n.length<=1000000/\ji s
def adr:List DV->Prop×DV:=eR adl eRM afh λc p v=>(True,.sl (cX (F4 p v c)))
def ahG(c)(p)(v):=show adr [.agg (aT c),.ref [.str p],.ref [.sl (cX v)]]=_ from bz Wg UF amf _ c p v
theorem Wl:aF Tryz.prog 112 adr:=by refine aF.uR (ps:=[]) (hs:=[]) trivial trivial YF λc p v _=> ?_;refine aq (A4 @LD.eq_1 @adl.eq_1 @afh.eq_1 @eRM.eq_1) (A2 ?_ (JJ ?_))<;>intros;all_goals grind[F4]
def Wm:List DV->Prop×DV:=eR adl eRM ado λc n s=>(n.length<=1000000/\ji s,.sl (cX (BD n s c)))
def ads(c)(n:List UInt8)(s:List cW):=show Wm [.agg (aT c),.ref [.str n],.ref [.sl (s.map aT)]]=_ from bz Wg UF ahE _ c n s
theorem Sc:aF Tryz.prog 143 Wm:=by
 refine aF.uR (ps:=[(142,oJ),(105,N9)]) (hs:=[]) ⟨rF,Oi,trivial⟩ trivial VJ λc n s h=> ?_;try dsimp only at h
 obtain⟨h1,h2⟩:=h;have e1:=uK c.path (under n);have e2:=GG s (Qu c.path (under n));rw[eq_true h2]at e2;simp only[under]at e1 e2;refine aq (A7 @HR.eq_1 @adl.eq_1 @ado.eq_1 @eRM.eq_1 e1 e2 @iI.eq_1) (A3 ?_ ?_ (JJ ?_))<;>intros;all_goals grind[BD,under]
def turn(t:Trn)(m:List cW):List cW:=m.map λc=>⟨c.path,Wk t c⟩
theorem Qv(t:Trn):turn t []=[]:=rfl
def adt(t:Trn)(m:List cW):Prop:=m.length<=1000000/\awu t/\∀c∈m,(Wk t c).length<=17592186044416
def Wn:List DV->Prop×DV:=b5 cT FZ λm t=>(adt t m,.sl ((turn t m).map aT))
def TK(m:List cW)(t:Trn):=show Wn [.sl (m.map aT),FZ t]=_ from aO gQ aph _ m t
theorem Me:aF Tryz.prog 111 Wn:=by
 refine aF.oU (ps:=[(112,adr),(143,Wm),(87,rD)]) (hs:=[]) ⟨Wl,Sc,qN,trivial⟩ trivial acq λm t h=> ?_;try dsimp only at h
 obtain⟨h1,h2,h3⟩:=h;have hz:[DV.str [],DV.nil].length=2:=rfl;refine aq (A4 @Pu.eq_1 @cT.eq_1 @FZ.eq_def @List.replicate_zero.{0}) (JJ ?_);refine ai m (λk (o:List cW)=>⟨[(1,FZ t),(5,.own 0 o.length 0 o.length),(11,.sl (m.map aT)),(12,.int .i64 m.length),(13,.int .i64 k)],[⟨.aN,2,o.map aT⟩]⟩) (λk r o=>o++turn t r=turn t m/\o.length=k) [] (Nat.zero_le _) (by cases t<;>(simp only[dK,List.map_cons,List.map_nil,cw,Nk.get_nil,Nat.reduceEqDiff,↓reduceIte,Nat.succ_ne_self,DV.cut,DV.rR,ak.cut,List.take_nil,DV.HH,Bool.and_true,reduceCtorEq,Nat.zero_lt_one,decide_true,List.take_succ_cons,FZ];rfl)) ⟨rfl,rfl⟩ (λk x r o d hx hd hr=> ?_) (λk o e hr=> ?_)
 ·obtain⟨g1,g2⟩:=hr;have hv:=h3 x (mc hd);have g3:o++[⟨x.path,Wk t x⟩]++turn t r=turn t m:=by simpa[turn]using g1
  cases t with
  |put p v=>
   have e1:=ahG x p v;have e2:=rE (F4 p v x);rw[eq_true (show(F4 p v x).length<=17592186044416 from hv)]at e2;refine aq (A5 @FZ.eq_def d (af aT hx) e1 e2) (JJ ?_);exact⟨o++[⟨x.path,F4 p v x⟩],(CF @List.map_append.{0,0}),g3,by simp[g2]⟩
  |over n s=>
   have e1:=ads x n s;rw[eq_true (show n.length<=1000000/\ji s from h2)]at e1;have e2:=rE (BD n s x);rw[eq_true (show(BD n s x).length<=17592186044416 from hv)]at e2;refine aq (A5 @FZ.eq_def d (af aT hx) e1 e2) (JJ ?_);exact⟨o++[⟨x.path,BD n s x⟩],(CF @List.map_append.{0,0}),g3,by simp[g2]⟩
 ·obtain⟨g1,g2⟩:=hr;simp only[Qv,List.append_nil]at g1;subst g1;cases t<;>((exact aq (A3 @FZ.eq_def @ze e) zz));all_goals rfl
def xm(m:List cW)(p:List UInt8)(v:List Int):List cW:=turn (.put p v) m
def iD(m:List cW)(n:List UInt8)(s:List cW):List cW:=turn (.over n s) m
def Xk:List DV->Prop×DV:=eR cT eS m6 λm p v=>(ji m/\v.length<=1000000,.sl ((xm m p v).map aT))
def Xl(m:List cW)(p)(v:List Int):=show Xk [.sl (m.map aT),.str p,.sl (cX v)]=_ from bz gQ ik mq _ m p v
theorem asX{m}{p}{v:List Int}(h:ji m)(h2:v.length<=1000000):adt (.put p v) m:=by refine⟨h.1,h2,λc hc=> ?_⟩;have:=h.2 c hc;simp only[Wk,F4];split<;>omega
theorem abq:aF Tryz.prog 77 Xk:=by
 refine aF.uR (ps:=[(111,Wn)]) (hs:=[]) ⟨Me,trivial⟩ trivial agF λm p v h=> ?_;try dsimp only at h
 have e1:=TK m (.put p v);rw[eq_true (asX h.1 h.2)]at e1;simp only[FZ]at e1;refine aq (A4 @SW.eq_1 @cT.eq_1 @m6.eq_1 e1) (JJ ?_);all_goals rfl
theorem GI:aF Tryz.prog 52 Xk:=by
 refine aF.uR (ps:=[]) (hs:=[]) trivial trivial Ko λm p v h=> ?_;try dsimp only at h
 obtain⟨⟨h1,h2⟩,h3⟩:=h;refine aq (A3 @xR.eq_1 @cT.eq_1 @m6.eq_1) (JJ ?_);refine ai m (λk (o:List cW)=>⟨[(0,.sl (m.map aT)),(1,.str p),(2,.sl (cX v)),(7,.own 0 o.length 0 o.length),(8,.int .i64 k)],[⟨.aN,2,o.map aT⟩]⟩) (λk r o=>o++xm r p v=xm m p v/\o.length=k) [] (Nat.zero_le _) CT ⟨rfl,rfl⟩ (λk x r o d hx hd hr=> ?_) (λk o e hr=> ?_)
 ·obtain⟨g1,g2⟩:=hr;have g3:o++[⟨x.path,F4 p v x⟩]++xm r p v=xm m p v:=by simpa[xm,turn,Wk]using g1
  refine aq (A2 d (af aT hx)) (A2 (λhn=> ?_) (JJ (λhn=> ?_)));all_goals first
   |(have e:F4 p v x=v:=by simp[F4,show x.path=p by first|exact hn|simpa using hn]
     rw[e]at g3;exact⟨o++[⟨x.path,v⟩],(CF @List.map_append.{0,0}),g3,by simp[g2]⟩)
   |(have e:F4 p v x=x.dL:=by simp[F4,show¬x.path=p by first|exact hn|simpa using hn]
     rw[e]at g3;exact⟨o++[⟨x.path,x.dL⟩],(CF @List.map_append.{0,0}),g3,by simp[g2]⟩)
 ·obtain⟨g1,g2⟩:=hr;simp only[xm,Qv,List.append_nil]at g1;subst g1;refine aq (A2 @ze e) (JJ ?_);all_goals rfl
def D0:List DV->Prop×DV:=eR cT eS cT λm n s=>(ji m/\n.length<=1000000/\ji s/\(∀c∈m,c.path.length<=4503599627370496),.sl ((iD m n s).map aT))
def Sp(m:List cW)(n:List UInt8)(s:List cW):=show D0 [.sl (m.map aT),.str n,.sl (s.map aT)]=_ from bz gQ ik gQ _ m n s
theorem amh{s}{p}{n}(h:∀c∈s,c.dL.length<=n):(zL s p).length<=n:=by
 unfold zL;induction s with
 |nil=>simp[rC]
 |cons c s ih=>
  simp only[rC];split
  ·exact h c (by simp)
  ·exact ih λc hc=>h c (by simp[hc])
theorem api{m}{n:List UInt8}{s}(h:ji m)(h2:n.length<=1000000)(h3:ji s):adt (.over n s) m:=by
 refine⟨h.1,⟨h2,h3⟩,λc hc=> ?_⟩;have:=h.2 c hc;simp only[Wk,BD];split
 ·exact amh h3.2
 ·omega
theorem Xo:aF Tryz.prog 110 D0:=by
 refine aF.uR (ps:=[(111,Wn)]) (hs:=[]) ⟨Me,trivial⟩ trivial acp λm n s h=> ?_;try dsimp only at h
 have e1:=TK m (.over n s);rw[eq_true (api h.1 h.2.1 h.2.2.1)]at e1;simp only[FZ]at e1;refine aq (A3 @Pt.eq_1 @cT.eq_1 e1) (JJ ?_);all_goals rfl
theorem adu(n)(s)(c:cW):BD n s c=if sV c.path (under n)&&Wi s (BC c.path n)then zL s (BC c.path n)else c.dL:=by
 unfold BD;cases h:sV c.path (under n)
 ·simp
 ·have:Qu c.path (under n)=BC c.path n:=by
   have hl:(under n).length=n.length+1:=by simp[under]
   unfold Qu BC;rw[h,hl];rfl
  rw[this]
theorem D3:aF Tryz.prog 119 D0:=by
 refine aF.uR (ps:=[(145,Wh),(81,N9)]) (hs:=[]) ⟨uL,vd,trivial⟩ trivial HN λm n s h=> ?_;try dsimp only at h
 obtain⟨⟨h1,h2⟩,h3,h4,h5⟩:=h;refine aq (A2 @vN.eq_1 @cT.eq_1) (JJ ?_);refine ai m (λk (o:List cW)=>⟨[(0,.sl (m.map aT)),(1,.str n),(2,.sl (s.map aT)),(7,.own 0 o.length 0 o.length),(8,.int .i64 k)],[⟨.aN,2,o.map aT⟩]⟩) (λk r o=>o++iD r n s=iD m n s/\o.length=k) [] (Nat.zero_le _) CT ⟨rfl,rfl⟩ (λk x r o d hx hd hr=> ?_) (λk o e hr=> ?_)
 ·obtain⟨g1,g2⟩:=hr;have g3:o++[⟨x.path,BD n s x⟩]++iD r n s=iD m n s:=by simpa[iD,turn,Wk]using g1
  have e1:=TJ x.path n;rw[eq_true (show x.path.length<=4503599627370496/\n.length<=1000000 from⟨h5 x (mc hd),h3⟩)]at e1;have e2:=GG s (BC x.path n);rw[eq_true h4]at e2;rw[adu]at g3;refine aq (A4 d (af aT hx) e1 e2) (A3 ?_ ?_ (JJ ?_))<;>intros;all_goals first
   |(rw[if_pos (by grind)]at g3
     exact⟨o++[⟨x.path,zL s (BC x.path n)⟩],(CF @List.map_append.{0,0}),g3,by simp[g2]⟩)
   |(rw[if_neg (by grind)]at g3
     exact⟨o++[⟨x.path,x.dL⟩],(CF @List.map_append.{0,0}),g3,by simp[g2]⟩)
 ·obtain⟨g1,g2⟩:=hr;simp only[iD,Qv,List.append_nil]at g1;subst g1;refine aq (A2 @ze e) (JJ ?_);all_goals rfl
def qy(n:List UInt8)(c:cW):List cW:=if sV c.path (under n)then [⟨c.path.drop (n.length+1),c.dL⟩]else []
def fu(m:List cW)(n:List UInt8):List cW:=m.flatMap (qy n)
def GD:List DV->Prop×DV:=b5 cT eS λm n=>(ji m/\n.length<=1000000/\(∀c∈m,c.path.length<=4503599627370496),.sl ((fu m n).map aT))
def N8(m:List cW)(n:List UInt8):=show GD [.sl (m.map aT),.str n]=_ from aO gQ ik _ m n
theorem Ux:aF Tryz.prog 109 GD:=by
 refine aF.oU (ps:=[(142,oJ),(87,rD)]) (hs:=[]) ⟨rF,qN,trivial⟩ trivial YE λm n h=> ?_;try dsimp only at h
 obtain⟨⟨h1,h2⟩,h3,h4⟩:=h;refine aq (A2 @LC.eq_1 @cT.eq_1) (JJ ?_);refine ai m (λk (o:List cW)=>⟨[(1,.str n),(5,.own 0 o.length 0 o.length),(10,.sl (m.map aT)),(11,.int .i64 m.length),(12,.int .i64 k)],[⟨.aN,2,o.map aT⟩]⟩) (λk r o=>o++fu r n=fu m n/\o.length<=k) [] (Nat.zero_le _) CT ⟨rfl,Nat.le_refl _⟩ (λk x r o d hx hd hr=> ?_) (λk o e hr=> ?_)
 ·obtain⟨g1,g2⟩:=hr;have g3:o++qy n x++fu r n=fu m n:=by simpa[fu]using g1
  have e1:=uK x.path (under n);have e2:=rE x.dL;rw[eq_true (show x.dL.length<=17592186044416 from h2 x (mc hd))]at e2;cases q:sV x.path (under n)
  ·simp only[qy,q,Bool.false_eq_true,if_false,List.append_nil]at g3;simp only[q]at e1;simp only[under]at e1;refine aq (A4 d (af aT hx) e1 @iI.eq_1) (JJ ?_);exact⟨o,CT,g3,by omega⟩
  ·simp only[qy,q,if_true]at g3;simp only[q,Qu,if_true]at e1;have el:(under n).length=n.length+1:=by simp[under]
   rw[el]at e1;simp only[under]at e1;refine aq (A5 d (af aT hx) e1 e2 @iI.eq_1) (JJ ?_);exact⟨o++[⟨x.path.drop (n.length+1),x.dL⟩],(CF @List.map_append.{0,0}),g3,by simp;omega⟩
 ·obtain⟨g1,g2⟩:=hr;simp only[fu,List.flatMap_nil,List.append_nil]at g1;subst g1;refine aq (A2 @ze e) (JJ ?_);all_goals rfl
theorem Cp:aF Tryz.prog 118 GD:=by
 refine aF.oU (ps:=[(145,Wh)]) (hs:=[]) ⟨uL,trivial⟩ trivial Fm λm n h=> ?_;try dsimp only at h
 obtain⟨⟨h1,h2⟩,h3,h4⟩:=h;refine aq (A2 @uq.eq_1 @cT.eq_1) (JJ ?_);refine ai m (λk (o:List cW)=>⟨[(0,.sl (m.map aT)),(1,.str n),(5,.own 0 o.length 0 o.length),(6,.int .i64 k)],[⟨.aN,2,o.map aT⟩]⟩) (λk r o=>o++fu r n=fu m n/\o.length<=k) [] (Nat.zero_le _) CT ⟨rfl,Nat.le_refl _⟩ (λk x r o d hx hd hr=> ?_) (λk o e hr=> ?_)
 ·obtain⟨g1,g2⟩:=hr;have g3:o++qy n x++fu r n=fu m n:=by simpa[fu]using g1
  have e1:=TJ x.path n;rw[eq_true (show x.path.length<=4503599627370496/\n.length<=1000000 from⟨h4 x (mc hd),h3⟩)]at e1;cases q:sV x.path (under n)
  ·simp only[qy,q,Bool.false_eq_true,if_false,List.append_nil]at g3;simp only[q]at e1;refine aq (A3 d (af aT hx) e1) (JJ ?_);exact⟨o,CT,g3,by omega⟩
  ·simp only[qy,q,if_true]at g3;simp only[q,BC,if_true]at e1;refine aq (A3 d (af aT hx) e1) (JJ ?_);exact⟨o++[⟨x.path.drop (n.length+1),x.dL⟩],(CF @List.map_append.{0,0}),g3,by simp;omega⟩
 ·obtain⟨g1,g2⟩:=hr;simp only[fu,List.flatMap_nil,List.append_nil]at g1;subst g1;refine aq (A2 @ze e) (JJ ?_);all_goals rfl
def afz(c:cW):Bool:=decide (c.path.length<=200)&&decide (c.dL.length<=20)
def NL(m:List cW):Bool:=decide (m.length<=150)&&m.all afz
def abb:List DV->Prop×DV:=bB cT λm=>(True,.bool (NL m))
def afA(m:List cW):=show abb [.sl (m.map aT)]=_ from aH gQ _ m
theorem Gs:aF Tryz.prog 7 abb:=by
 refine aF.mo (ps:=[]) (hs:=[]) trivial trivial Km λm _=> ?_;refine aq (A2 @xQ.eq_1 @cT.eq_1) (JJ ?_);refine ai m (λk (_:Unit)=>⟨[(0,.sl (m.map aT)),(3,.int .i64 k)],[]⟩) (λk r _=>k<=200/\r.all afz=m.all afz) () (Nat.zero_le _) CT ⟨by omega,rfl⟩ (λk x r _ d hx hd hr=> ?_) (λk _ e hr=> ?_)
 ·obtain⟨hk,hr⟩:=hr;simp only[List.all_cons]at hr;refine aq (A3 @aV d (af aT hx)) (A4 ?_ ?_ ?_ (JJ ?_))<;>intros;all_goals first
   |exact⟨(),CT,by omega,by grind[afz]⟩
   |grind[NL,afz]
 ·obtain⟨hk,hr⟩:=hr;simp only[List.all_nil]at hr;refine aq @e (JJ ?_);all_goals grind[NL]
theorem vi(m:List cW)(p)(v):(xm m p v).length=m.length:=by simp[xm,turn]
theorem vX(m)(p)(v):rC (xm m p v) p=if Wi m p then some v else none:=by
 induction m with
 |nil=>rfl
 |cons c m ih=>
  have e:xm (c::m) p v=⟨c.path,F4 p v c⟩::xm m p v:=rfl;rw[e];simp only[rC,Wi];by_cases h:c.path=p
  ·simp[h,F4]
  ·simp only[h,if_false];exact ih
end
end Go.Proofs.YtcokmopocppmiaaGreat

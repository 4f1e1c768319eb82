/- Programs: on what equations hang: the walk (18). -/
import Derived.Test.YtcokmopocppmiaaGreatPgEb
set_option linter.all false
set_option maxRecDepth 20000
namespace Go.Proofs.YtcokmopocppmiaaGreat
noncomputable section
open Go.Nk
theorem zk(e):(bQ e).length<=(ax e).length:=by
 induction e using Ex.ind with
 |h e ih=>
  have key:∀l:List Ex,(∀x∈l,(bQ x).length<=(ax x).length)->∀b,(lZ b l).length<=(bC l).length:=by
   intro l;induction l with
   |nil=>intro _ b;cases b<;>simp[lZ]
   |cons x l il=>
    intro h b;have h1:=h x (List.mem_cons_self ..);have h2:=il (λy hy=>h y (List.mem_cons_of_mem _ hy)) false;rw[lZ,bC,List.length_append,List.length_append];cases b
    ·simp only[Bool.false_eq_true,if_false];omega
    ·simp only[if_true,List.length_nil];omega
  have h1:=key e.ar ih (e.kind==8);rw[SN,iA,List.length_append,List.length_cons];have h2:(if e.kind=3\/e.kind=11\/e.kind=12 then [e.name]else []).length<=1:=by split<;>simp
  have h3:(if e.kind=10 then []else lZ (e.kind==8) e.ar).length<=(lZ (e.kind==8) e.ar).length:=by split<;>simp
  omega
def yg(N:Nat):List DV->Prop×DV:=bB gC λe=>((ax e).length<N/\(ax e).length<=1000,.sl (dI (bQ e)))
def aas(N)(e):=show yg N [.agg (cA e)]=_ from aH fv _ e
def eF(kd:Int)(k:Nat)(r:List Ex):List (List UInt8):=if kd=10 then []else if kd=8 then(if k=0 then lZ true r else [])else lZ false r
theorem tu{kd}{k}:eF kd k []=[]:=by
 unfold eF;split
 ·rfl
 ·split
  ·split<;>simp[lZ]
  ·simp[lZ]
theorem IL(a b):dI a++dI b=dI (a++b):=by simp[dI]
theorem lS(a)(s):dI a++[[DV.str s]]=dI (a++[s]):=by simp[dI]
theorem sI:dI []=[]:=rfl
theorem T4(N)(e)(hp:List ak)(Q)(hN:(ax e).length<N+1)(h1:(ax e).length<=1000)
 (hQ:∀s:DS,s.hp=hp++[⟨.aN,1,dI (bQ e)⟩]->get 2 s.fr= .own hp.length (bQ e).length 0 (bQ e).length->Q .ret s):
 gO (jL.of [(186,yg N)] []) hp.length bR.code Q ⟨aQ 0 [.agg (cA e)],hp⟩:=by
 have hlen:=zk e;have e2:∀x∈e.ar,yg N [.agg (cA x)]=(True,.sl (dI (bQ x))):=λx hx=>by have:=jK hx;rw[aas,eq_true (show(ax x).length<N/\(ax x).length<=1000 from⟨by omega,by omega⟩)]
 have h2:=jm e;have h3:=iB e.ar;have h4:=jb e;have hrd:=SN e;obtain⟨kd,Dc⟩:∃kd,kd=e.kind:=⟨_,rfl⟩;by_cases c:e.kind=3\/e.kind=11\/e.kind=12
 ·rw[if_pos c]at hrd;have hr0:[e.name]++eF kd 0 e.ar=bQ e:=by
   rw[hrd,eF,if_neg (by omega),if_neg (by omega),if_neg (by omega)];have:(e.kind==8)=false:=by rw[beq_eq_false_iff_ne];omega
   rw[this]
  rcases c with c|c|c
  ·refine aq (A5 @bR.eq_1 (ag e) c @lk @lp) (JJ ?_);refine ai e.ar (λk (o:List (List UInt8))=>⟨[(1,.ref (cA e)),(3,.own hp.length o.length 0 o.length),(4,.int .i64 k)],hp++[⟨.aN,1,dI o⟩]⟩) (λk r o=>o++eF kd k r=bQ e) [e.name] trivial (CF (A2 (ag e) c)) hr0 (λk x r o d hx hd hr=> ?_) (λk o ek hr=> ?_)
   ·have hs:eF kd k (x::r)=bQ x++eF kd (k+1) r:=by rw[eF,eF,if_neg (by omega),if_neg (by omega),if_neg (by omega),if_neg (by omega),lZ];rfl
    rw[hs]at hr;have P2:=congrArg List.length hr;simp only[List.length_append]at P2;have e3:=e2 x (List.mem_of_getElem? hx);have gx:=af cA hx;simp only[ag x]at e3 gx;refine aq (A9 @aj @td (ag e) c d gx e3 @lk (A2 @lp @IL)) (JJ ?_);exact⟨o++bQ x,CT,by rw[List.append_assoc];exact hr⟩
   ·rw[tu,List.append_nil]at hr;subst hr;refine aq (A3 (ag e) c ek) (JJ ?_);exact hQ _ rfl rfl
  ·refine aq (A5 @bR.eq_1 (ag e) c @lk @lp) (JJ ?_);refine ai e.ar (λk (o:List (List UInt8))=>⟨[(1,.ref (cA e)),(3,.own hp.length o.length 0 o.length),(4,.int .i64 k)],hp++[⟨.aN,1,dI o⟩]⟩) (λk r o=>o++eF kd k r=bQ e) [e.name] trivial (CF (A2 (ag e) c)) hr0 (λk x r o d hx hd hr=> ?_) (λk o ek hr=> ?_)
   ·have hs:eF kd k (x::r)=bQ x++eF kd (k+1) r:=by rw[eF,eF,if_neg (by omega),if_neg (by omega),if_neg (by omega),if_neg (by omega),lZ];rfl
    rw[hs]at hr;have P2:=congrArg List.length hr;simp only[List.length_append]at P2;have e3:=e2 x (List.mem_of_getElem? hx);have gx:=af cA hx;simp only[ag x]at e3 gx;refine aq (A9 @aj @td (ag e) c d gx e3 @lk (A2 @lp @IL)) (JJ ?_);exact⟨o++bQ x,CT,by rw[List.append_assoc];exact hr⟩
   ·rw[tu,List.append_nil]at hr;subst hr;refine aq (A3 (ag e) c ek) (JJ ?_);exact hQ _ rfl rfl
  ·refine aq (A5 @bR.eq_1 (ag e) c @lk @lp) (JJ ?_);refine ai e.ar (λk (o:List (List UInt8))=>⟨[(1,.ref (cA e)),(3,.own hp.length o.length 0 o.length),(4,.int .i64 k)],hp++[⟨.aN,1,dI o⟩]⟩) (λk r o=>o++eF kd k r=bQ e) [e.name] trivial (CF (A2 (ag e) c)) hr0 (λk x r o d hx hd hr=> ?_) (λk o ek hr=> ?_)
   ·have hs:eF kd k (x::r)=bQ x++eF kd (k+1) r:=by rw[eF,eF,if_neg (by omega),if_neg (by omega),if_neg (by omega),if_neg (by omega),lZ];rfl
    rw[hs]at hr;have P2:=congrArg List.length hr;simp only[List.length_append]at P2;have e3:=e2 x (List.mem_of_getElem? hx);have gx:=af cA hx;simp only[ag x]at e3 gx;refine aq (A9 @aj @td (ag e) c d gx e3 @lk (A2 @lp @IL)) (JJ ?_);exact⟨o++bQ x,CT,by rw[List.append_assoc];exact hr⟩
   ·rw[tu,List.append_nil]at hr;subst hr;refine aq (A3 (ag e) c ek) (JJ ?_);exact hQ _ rfl rfl
 rw[if_neg c,List.nil_append]at hrd;have d3:¬e.kind=3:=λhh=>c (.inl hh);have d11:¬e.kind=11:=λhh=>c (.inr (.inl hh));have d12:¬e.kind=12:=λhh=>c (.inr (.inr hh));by_cases SD:e.kind=10
 ·have hr0:[]++eF kd 0 e.ar=bQ e:=by rw[hrd,eF,if_pos SD,if_pos (Dc.trans SD)];rfl
  refine aq (A3 @bR.eq_1 (ag e) SD) (JJ ?_);refine ai e.ar (λk (o:List (List UInt8))=>⟨[(1,.ref (cA e)),(3,.own hp.length o.length 0 o.length),(4,.int .i64 k)],hp++[⟨.aN,1,dI o⟩]⟩) (λk r o=>o++eF kd k r=bQ e) [] trivial (CF (A3 (ag e) SD @sI)) hr0 (λk x r o d hx hd hr=> ?_) (λk o ek hr=> ?_)
  ·have hs:eF kd k (x::r)=eF kd (k+1) r:=by rw[eF,eF,if_pos (Dc.trans SD),if_pos (Dc.trans SD)]
   rw[hs]at hr;refine aq (A3 (ag e) SD d) (JJ ?_);exact⟨o,CT,hr⟩
  ·rw[tu,List.append_nil]at hr;subst hr;refine aq (A3 (ag e) SD ek) (JJ ?_);exact hQ _ rfl rfl
 by_cases c8:e.kind=8
 ·have hr0:[]++eF kd 0 e.ar=bQ e:=by rw[hrd,eF,if_neg SD,if_neg (by omega),if_pos (Dc.trans c8),if_pos rfl,show(e.kind==8)=true by simpa using c8];rfl
  refine aq (A3 @bR.eq_1 (ag e) c8) (JJ ?_);refine ai e.ar (λk (o:List (List UInt8))=>⟨[(1,.ref (cA e)),(3,.own hp.length o.length 0 o.length),(4,.int .i64 k)],hp++[⟨.aN,1,dI o⟩]⟩) (λk r o=>o++eF kd k r=bQ e) [] trivial (CF (A3 (ag e) c8 @sI)) hr0 (λk x r o d hx hd hr=> ?_) (λk o ek hr=> ?_)
  ·cases k with
   |zero=>
    have hs:eF kd 0 (x::r)=bQ x++eF kd (0+1) r:=by simp[eF,Dc.trans c8,lZ]
    rw[hs]at hr;have P2:=congrArg List.length hr;simp only[List.length_append]at P2;have e3:=e2 x (List.mem_of_getElem? hx);have gx:=af cA hx;simp only[ag x]at e3 gx;refine aq (A9 @aj @td (ag e) c8 gx e3 @lk @lp @IL) (JJ (λhn=> ?_));exact⟨o++bQ x,CT,by rw[List.append_assoc];exact hr⟩
   |succ k=>
    have hs:eF kd (k+1) (x::r)=eF kd (k+1+1) r:=by simp[eF,Dc.trans c8]
    rw[hs]at hr;have z9:((k+1:Nat):Int)>0:=by omega
    have hk1:(0:Int)<((k+1:Nat):Int):=by omega
    refine aq (A4 (ag e) c8 d z9) (JJ ?_);all_goals first
     |exact⟨o,CT,hr⟩
  ·rw[tu,List.append_nil]at hr;subst hr;refine aq (A3 (ag e) c8 ek) (JJ ?_);exact hQ _ rfl rfl
 have hr0:[]++eF kd 0 e.ar=bQ e:=by rw[hrd,eF,if_neg SD,if_neg (by omega),if_neg (by omega),show(e.kind==8)=false by simpa using c8];rfl
 refine aq (A2 @bR.eq_1 (ag e)) (JJ (λhn hn hn=> ?_));refine ai e.ar (λk (o:List (List UInt8))=>⟨[(1,.ref (cA e)),(3,.own hp.length o.length 0 o.length),(4,.int .i64 k)],hp++[⟨.aN,1,dI o⟩]⟩) (λk r o=>o++eF kd k r=bQ e) [] trivial (CF (A2 (ag e) @sI)) hr0 (λk x r o d hx hd hr=> ?_) (λk o ek hr=> ?_)
 ·have hs:eF kd k (x::r)=bQ x++eF kd (k+1) r:=by rw[eF,eF,if_neg (by omega),if_neg (by omega),if_neg (by omega),if_neg (by omega),lZ];rfl
  rw[hs]at hr;have P2:=congrArg List.length hr;simp only[List.length_append]at P2;have e3:=e2 x (List.mem_of_getElem? hx);have gx:=af cA hx;simp only[ag x]at e3 gx;refine aq (A9 @aj @td (ag e) d gx e3 @lk @lp @IL) (JJ (λhn hn=> ?_));exact⟨o++bQ x,CT,by rw[List.append_assoc];exact hr⟩
 ·rw[tu,List.append_nil]at hr;subst hr;refine aq (A2 (ag e) ek) (JJ ?_);exact hQ _ rfl rfl
theorem T5:∀N,aF Tryz.prog 186 (yg N)
 |0=>aF.mo (ps:=[]) (hs:=[]) trivial trivial oq λe h=>absurd h.1 (Nat.not_lt_zero _)
 |N+1=>aF.mo (ps:=[(186,yg N)]) (hs:=[]) ⟨T5 N,trivial⟩ trivial oq λe h=>by refine T4 N e [] _ h.1 h.2 λs h1 h2=> ?_;obtain⟨fr,hp⟩:=s;dsimp only at h1 h2;subst h1;have ht:(dI (bQ e)).take (bQ e).length=dI (bQ e):=List.take_of_length_le (by simp[dI]);have h3:=zk e;have h4:=h.2;show(aW _ bR.res).1/\_;exact aq (A4 @bR.eq_1 @aj h2 ht) zz;all_goals rfl
def QZ:List DV->List ak->sj:=m7 (λ(x:Ex×Nat) a hp=>a=[.agg (cA x.1)]/\x.2=hp.length) (λx=>((ax x.1).length<=1000,.own x.2 (bQ x.1).length 0 (bQ x.1).length)) λx hp=>hp++[⟨.aN,1,dI (bQ x.1)⟩]
theorem Wt(e)(hp:List ak):QZ [.agg (cA e)] hp=⟨(ax e).length<=1000,.own hp.length (bQ e).length 0 (bQ e).length,hp++[⟨.aN,1,dI (bQ e)⟩]⟩:=by
 refine jJ (x:=(e,hp.length)) ?_ ⟨rfl,rfl⟩
 rintro⟨x1,x2⟩ ⟨y1,y2⟩ a hp ⟨h1,rfl⟩ ⟨h2,rfl⟩
 dsimp only at h1 h2;rw[h1]at h2;simp only[List.cons.injEq,DV.agg.injEq,and_true]at h2;rw[yz _ _ h2]
theorem ahX:g9 Tryz.prog 186 QZ:=by
 refine g9.anF (ps:=[(186,yg 2000)]) (hs:=[]) ⟨T5 2000,trivial⟩ trivial oq (by rintro x a hp ⟨rfl,_⟩;rfl) ?_
 rintro⟨e,n⟩ a hp ⟨rfl,rfl⟩ hl
 simp only at hl|-;refine T4 2000 e hp _ (by omega) hl λs h1 h2=> ?_;rw[Pv];exact aq (A3 @bR.eq_1 h2 h1) zz;all_goals rfl
@[reducible] def z7(b:Bool):List DV:=[.bool b]
def apz:=show∀x y,z7 x=z7 y->x=_ fromλx y h=>by simpa[z7]using h
abbrev UW:List Bool->DV:=eL z7
theorem M5:rJ UW:=Al apz
theorem afq{n:kZ}(hs:dH n=true){i}(h:i<n.eqs.length):n.eqs.getD i default∈n.eqs:=List.mem_of_getElem? (hU h)
theorem BH{e}(h:er e=true):(ax e).length<=1000:=by have:=kL h;omega
def Wu:List DV->Prop×DV:=b5 sM eI λn i=>(dH n=true/\0<=i/\i<n.eqs.length,.sl (dI (wM n (n.eqs.getD i.toNat default))))
def adF(n:kZ)(i:Int):=show Wu [.agg (ef n),.int .i64 i]=_ from aO px b6 _ n i
theorem amw:aF Tryz.prog 167 Wu:=by
 refine aF.oU (ps:=[(96,G5)]) (hs:=[(186,QZ)]) ⟨sv,trivial⟩ ⟨ahX,trivial⟩ Fq λn i h=> ?_;obtain⟨hs,h0,h1⟩:=h;dsimp only;obtain⟨m,rfl⟩:=Int.eq_ofNat_of_zero_le h0;simp only[Int.toNat_natCast];have hm:m<n.eqs.length:=by omega
 have gx:=af kO (hU hm);have Rx:=afq hs hm;obtain⟨_,_,_,_,_,h6⟩:=cO hs;generalize n.eqs.getD m default=x at*;obtain⟨hx1,DW⟩:=h6 x Rx;have RH:=BH DW;have hrl:=zk x.e;have e1:=Wt x.e [⟨.loc,7,[kO x]⟩];rw[eq_true RH]at e1;simp only[ag x.e]at e1;have hh:wM n x=bQ x.e++(if x.names=[]then []else((mQ n (x.names.getD 0 [])).getD []).map (·.on)):=rfl;rw[hh];have Ed:(m:Int)<n.eqs.length:=by omega
 by_cases hn:x.names=[]
 ·rw[if_pos hn,List.append_nil];have zK:(x.names.length:Int)=0:=by rw[hn];rfl
  have ht:(dI (bQ x.e)).take (bQ x.e).length=dI (bQ x.e):=List.take_of_length_le (by simp[dI]);exact aq (A8 @om.eq_1 @sM.eq_1 @aj gx Ed e1 zK ht) zz;all_goals rfl
 rw[if_neg hn];have sK:0<x.names.length:=List.length_pos_iff.2 hn;have zK:¬(x.names.length:Int)=0:=by omega
 have hn1:(0:Int)<x.names.length:=by omega
 have e2:=Ln n (x.names.getD 0 []);rw[eq_true hs]at e2;have g0:(dI x.names).getD 0 []=[.str (x.names.getD 0 [])]:=fk (by rw[List.getD_eq_getElem?_getD,List.getElem?_eq_getElem sK];rfl);have auK:((mQ n (x.names.getD 0 [])).getD []).length<=13:=by
  cases hc:mQ n (x.names.getD 0 [])with
  |none=>simp
  |some l=>have:=(OI hc (λd hd=>by simp at hd)).2;simpa using this
 generalize (mQ n (x.names.getD 0 [])).getD []=l at*;generalize (mQ n (x.names.getD 0 [])).isSome=lb at*;generalize x.names.getD 0 []=s0 at*;refine aq (A9 @om.eq_1 @sM.eq_1 @aj gx Ed e1 e2 hn1 g0) (JJ (λhn=> ?_));refine ai l (λk (o:List (List UInt8))=>⟨[(6,.own 1 o.length 0 o.length),(7,.sl (l.map fR)),(9,.int .i64 k)],[⟨.loc,7,[kO x]⟩,⟨.aN,1,dI o⟩]⟩) (λk r o=>o++r.map (·.on)=bQ x.e++l.map (·.on)/\o.length=(bQ x.e).length+k) (bQ x.e) (by decide) CT ⟨rfl,rfl⟩ (λk d r o dk hx hd hr=> ?_) (λk o ek hr=> ?_)
 ·obtain⟨r1,r2⟩:=hr;have gd:=af fR hx;refine aq (A4 @aj dk gd @lS) (JJ ?_);exact⟨o++[d.on],CT,by simpa using r1,by simp[r2];omega⟩
 ·obtain⟨r1,r2⟩:=hr;rw[List.map_nil,List.append_nil]at r1;rw[<-r1];have ht:(dI o).take o.length=dI o:=List.take_of_length_le (by simp[dI]);exact aq (A3 @aj ek ht) zz;all_goals rfl
def Rt(n:kZ)(bs:List Bool):List (List (List UInt8)×Bool):=(n.eqs.map (·.names)).zip bs
theorem Li{x:List (List UInt8)}{b:Bool}{l:List (List (List UInt8)×Bool)}{s:List UInt8}:gK ((x,b)::l) s=((!b&&x.any (·==s))||gK l s):=rfl
theorem Jy{l:List Bool}{k:Nat}{b:Bool}(h:l[k]? =some b):(l.map z7).getD k []=[.bool b]:=af z7 h
def Wv:List DV->Prop×DV:=eR sM UW eS λn bs s=>(dH n=true/\bs.length=n.eqs.length,.bool (gK (Rt n bs) s))
def adG(n:kZ)(bs:List Bool)(s):=show Wv [.agg (ef n),.sl (bs.map z7),.str s]=_ from bz px M5 ik _ n bs s
theorem Dh:aF Tryz.prog 168 Wv:=by
 refine aF.uR (ps:=[]) (hs:=[]) trivial trivial Fs λn bs s h=> ?_;try dsimp only at h
 obtain⟨hs,hb⟩:=h;obtain⟨_,_,_,h4,_,h6⟩:=cO hs;refine aq (A3 @uv.eq_1 @UW.eq_1 @sM.eq_1) (JJ ?_);refine ai n.eqs (λk (_:Unit)=>⟨[(1,.sl (bs.map z7)),(2,.str s),(3,.ref (ef n)),(7,.int .i64 k)],[]⟩) (λk r _=>gK (Rt n bs) s=gK ((r.map (·.names)).zip (bs.drop k)) s) () (Nat.zero_le _) CT rfl (λk x r _ d hx hd hr=> ?_) (λk _ e hr=> ?_)
 ·have dk:k<bs.length:=by omega
  obtain⟨b,q1,q2⟩:=dP bs dk;rw[q2,List.map_cons,List.zip_cons_cons,Li]at hr;have gx:=af kO hx;have gb:=Jy q1;have ax7:=(h6 x (List.mem_of_getElem? hx)).1;refine aq @d (JJ ?_);refine ai x.names (λj (_:Unit)=>⟨[(1,.sl (bs.map z7)),(2,.str s),(3,.ref (ef n)),(7,.int .i64 k),(8,.int .i64 j)],[]⟩) (λj w _=>gK (Rt n bs) s=((!b&&w.any (·==s))||gK ((r.map (·.names)).zip (bs.drop (k+1))) s)) () (Nat.zero_le _) CT hr (λj y w _ dj hy hdj hw=> ?_) (λj _ ej hw=> ?_)
  ·rw[List.any_cons]at hw;have gy:=fk hy;have hbl:(k:Int)<bs.length:=by omega
   cases b
   ·by_cases hys:y=s
    ·subst hys;refine aq (A7 @aj d dj gx gb gy hb) (JJ ?_);all_goals(rw[hw];simp;done)
    ·have UU:(y==s)=false:=by simpa using hys
     rw[UU,Bool.false_or]at hw;refine aq (A7 @aj d dj gx gb gy hb) (A2 ?_ (JJ ?_))<;>intros;all_goals first|exact absurd (by assumption) hys|exact⟨(),CT,hw⟩
   ·refine aq (A6 @aj d dj gx gb hb) (JJ ?_);all_goals exact⟨(),CT,hw⟩
  ·rw[List.any_nil,Bool.and_false,Bool.false_or]at hw;refine aq (A4 @aj d gx ej) (JJ ?_);all_goals exact⟨(),CT,hw⟩
 ·have hr:_=false:=hr;rw[hr];exact aq @e zz;all_goals rfl
theorem amx{n:kZ}{bs:List Bool}(h:bs.length=n.eqs.length){k}(hk:k<n.eqs.length):(Rt n bs).getD k ([],true)=((n.eqs.getD k default).names,bs.getD k true):=by
 have h1:=hU hk;have h2:bs[k]? =some (bs.getD k true):=by rw[List.getD_eq_getElem?_getD,List.getElem?_eq_getElem (by omega)];rfl
 rw[List.getD_eq_getElem?_getD,Rt,(List.getElem?_zip_eq_some (z:=((n.eqs.getD k default).names,bs.getD k true))).2 ⟨by rw[List.getElem?_map,h1];rfl,h2⟩];rfl
theorem apA{n:kZ}{bs:List Bool}(h:bs.length=n.eqs.length){k}(hk:k<n.eqs.length):Rt n (bs.set k true)=place (Rt n bs) k:=by
 unfold place;rw[amx h hk];refine List.ext_getElem? λj=> ?_;simp only[Rt];rw[List.getElem?_set];by_cases hj:k=j
 ·subst hj;rw[if_pos rfl,if_pos (by simp[h,hk]),(List.getElem?_zip_eq_some (z:=((n.eqs.getD k default).names,true))).2 ⟨by rw[List.getElem?_map,hU hk];rfl,by rw[List.getElem?_set,if_pos rfl,if_pos (by omega)]⟩]
 ·rw[if_neg hj];simp only[List.zip,List.getElem?_zipWith,List.getElem?_set,if_neg hj]
def hsN(n:kZ):List (List (List UInt8)):=n.eqs.map (wM n)
theorem as5{n:kZ}{k}(hk:k<n.eqs.length):(hsN n).getD k []=wM n (n.eqs.getD k default):=by rw[List.getD_eq_getElem?_getD,hsN,List.getElem?_map,hU hk];rfl
theorem as6{n}{s}:((mQ n s).getD []).length<=13:=by
 cases hc:mQ n s with
 |none=>simp
 |some l=>have:=(OI hc (λd hd=>by simp at hd)).2;simpa using this
theorem ahY{n}{x:wq}(h:er x.e=true):(wM n x).length<=2000:=by
 have h1:=zk x.e;have h2:=BH h;have h3:=as6 (n:=n) (s:=x.names.getD 0 []);unfold wM;rw[List.length_append];split
 ·simp;omega
 ·rw[List.length_map];omega
def ND:List DV->Prop×DV:=eR sM UW eI λn bs i=>((dH n=true/\bs.length=n.eqs.length)/\0<=i/\i<n.eqs.length,.bool (rS (hsN n) (Rt n bs) i.toNat))
def adH(n:kZ)(bs:List Bool)(i:Int):=show ND [.agg (ef n),.sl (bs.map z7),.int .i64 i]=_ from bz px M5 b6 _ n bs i
theorem amz:aF Tryz.prog 149 ND:=by
 refine aF.uR (ps:=[(167,Wu),(168,Wv)]) (hs:=[]) ⟨amw,Dh,trivial⟩ trivial Fp λn bs i h=> ?_;obtain⟨⟨hs,hb⟩,h0,h1⟩:=h;dsimp only;obtain⟨m,rfl⟩:=Int.eq_ofNat_of_zero_le h0;simp only[Int.toNat_natCast];have hm:m<n.eqs.length:=by omega
 have e1:=adF n m;rw[eq_true (show dH n=true/\(0:Int)<=m/\(m:Int)<n.eqs.length from⟨hs,by omega,by omega⟩),Int.toNat_natCast]at e1;have hz:rS (hsN n) (Rt n bs) m=((wM n (n.eqs.getD m default)).all (λs=> !gK (Rt n bs) s)&& !bs.getD m true):=by unfold rS;rw[as5 hm,amx hb hm]
 rw[hz];have gb:(bs.map z7).getD m []=[.bool (bs.getD m true)]:=Jy (by rw[List.getD_eq_getElem?_getD,List.getElem?_eq_getElem (by omega)];rfl);have hbl:m<bs.length:=by omega
 have e2:=λs=>adG n bs s;simp only[eq_true (show dH n=true/\bs.length=n.eqs.length from⟨hs,hb⟩)]at e2;have hll:(wM n (n.eqs.getD m default)).length<=2000:=ahY (((cO hs).2.2.2.2.2 _ (afq hs hm)).2);generalize wM n (n.eqs.getD m default)=l at*;generalize bs.getD m true=b at*;refine aq (A4 @uu.eq_1 @UW.eq_1 @sM.eq_1 e1) (JJ ?_);refine ai l (λk (_:Unit)=>⟨[(1,.sl (bs.map z7)),(2,.int .i64 m),(3,.ref (ef n)),(7,.sl (dI l)),(8,.int .i64 k)],[]⟩) (λk r _=>(l.all λs=> !gK (Rt n bs) s)=r.all λs=> !gK (Rt n bs) s) () (Nat.zero_le _) CT rfl (λk s r _ d hx hd hr=> ?_) (λk _ e hr=> ?_)
 ·rw[List.all_cons]at hr;have gs:=fk hx;have e3:=e2 s;generalize gK (Rt n bs) s=w at*;cases w
  ·refine aq (A4 @aj d gs e3) (JJ ?_);exact⟨(),CT,hr⟩
  ·refine aq (A4 @aj d gs e3) (JJ ?_);all_goals(rw[hr];rfl)
 ·have hr:_=true:=hr;rw[hr];exact aq (A4 @aj e gb hbl) zz;all_goals rfl
def IU(n:Nat):List DV:=[.int .i64 n]
def Oo:Option Nat->Int
 |some k=>k
 |none=> -1
theorem Ef{n j}(h:j<n):(List.range n).drop j=j::(List.range n).drop (j+1):=by rw[List.drop_eq_getElem_cons (by simpa using h),List.getElem_range]
def Q0:List DV->Prop×DV:=bB sM λn=>(dH n=true,.cy [.sl ((wN n).1.map IU),.bool (wN n).2])
def aat(n):=show Q0 [.agg (ef n)]=_ from aH px _ n
theorem adI:aF Tryz.prog 126 Q0:=by
 refine aF.mo (ps:=[(149,ND)]) (hs:=[]) ⟨amz,trivial⟩ trivial Fo λn h=> ?_;dsimp only;have hs:dH n=true:=h;obtain⟨_,_,_,h4,_,_⟩:=cO hs;have hp0:(n.eqs.map λx=>(x.names,false))=Rt n (List.replicate n.eqs.length false):=by
  refine List.ext_getElem? λj=> ?_;simp only[Rt,List.getElem?_map,List.zip,List.getElem?_zipWith,List.getElem?_replicate];cases hj:n.eqs[j]? with
  |none=>rfl
  |some x=>rw[if_pos (List.getElem?_eq_some_iff.1 hj).1];rfl
 have BO:wN n=fH (hsN n) n.eqs.length (Rt n (List.replicate n.eqs.length false)):=by rw[<-hp0];rfl
 have Cx:List.replicate n.eqs.length [DV.bool false]=(List.replicate n.eqs.length false).map z7:=by rw[List.map_replicate]
 refine aq (A2 @ur.eq_1 @sM.eq_1) (JJ ?_);refine gT (λx:List Nat×List Bool=>⟨[(1,.ref (ef n)),(4,.own 0 n.eqs.length 0 n.eqs.length),(5,.own 1 x.1.length 0 x.1.length)],[⟨.aN,1,x.2.map z7⟩,⟨.aN,1,x.1.map IU⟩]⟩)
  (λx=>x.2.length=n.eqs.length/\x.1.length<=n.eqs.length/\wN n=(x.1++(fH (hsN n) (n.eqs.length-x.1.length) (Rt n x.2)).1,(fH (hsN n) (n.eqs.length-x.1.length) (Rt n x.2)).2)) (λx=>n.eqs.length-x.1.length) ([],List.replicate n.eqs.length false) (by decide) (CF @Cx) ⟨by simp,Nat.zero_le _,by rw[BO];rfl⟩ λx hx=> ?_
 obtain⟨out,bs⟩:=x;obtain⟨hb,XC,hr⟩:=hx;dsimp only at hb XC hr;by_cases fM:out.length<n.eqs.length;rotate_left
 ·have he:n.eqs.length-out.length=0:=by omega
  rw[he,fH]at hr;rw[hr,List.append_nil];have ht:(out.map IU).take out.length=out.map IU:=List.take_of_length_le (by simp);have AA:¬(out.length:Int)<n.eqs.length:=by omega
  exact aq (A2 AA ht) zz;all_goals rfl
 have AA:(out.length:Int)<n.eqs.length:=by omega
 rw[show n.eqs.length-out.length=(n.eqs.length-out.length-1)+1 by omega,fH]at hr;have hnx:On (hsN n) (Rt n bs)=(List.range n.eqs.length).find? (rS (hsN n) (Rt n bs)):=by unfold On;rw[hsN,List.length_map]
 rw[hnx]at hr;generalize hrd:rS (hsN n) (Rt n bs)=rd at*;have e1:∀j:Nat,j<n.eqs.length->ND [.agg (ef n),.sl (bs.map z7),.int .i64 j]=(True,.bool (rd j)):=λj hj=>by have:=adH n bs j;rw[eq_true (show(dH n=true/\bs.length=n.eqs.length)/\(0:Int)<=j/\(j:Int)<n.eqs.length from⟨⟨hs,hb⟩,by omega,by omega⟩),Int.toNat_natCast,hrd]at this;exact this
 refine aq @AA (JJ ?_);have as7:(List.range n.eqs.length).drop n.eqs.length=[]:=List.drop_of_length_le (by simp);refine gT (λj:Nat=>⟨[(1,.ref (ef n)),(4,.own 0 n.eqs.length 0 n.eqs.length),(5,.own 1 out.length 0 out.length),(6,.int .i64 (Oo (((List.range n.eqs.length).drop j).find? rd))),(7,.int .i64 ((j:Int)-1))],[⟨.aN,1,bs.map z7⟩,⟨.aN,1,out.map IU⟩]⟩) (λj=>j<=n.eqs.length) (λj=>j) n.eqs.length (by decide) (CF @as7) (Nat.le_refl _) λj hj=> ?_;cases j with
 |zero=>
  rw[List.drop_zero];have hj0:¬(((0:Nat):Int)-1)≥0:=by decide
  have hj1:¬(0:Int)<=((0:Nat):Int)-1:=by decide
  cases hf:(List.range n.eqs.length).find? rd with
  |none=>
   rw[hf]at hr;dsimp only at hr;rw[List.append_nil]at hr;rw[hr];have ht:(out.map IU).take out.length=out.map IU:=List.take_of_length_le (by simp);have ho:Oo none= -1:=rfl;exact aq (A2 ho ht) zz;all_goals rfl
  |some i=>
   rw[hf]at hr;dsimp only at hr;have hil:i<n.eqs.length:=by have:=List.mem_of_find?_eq_some hf;simpa using this
   have ho:Oo (some i)=(i:Int):=rfl;have hi0:¬(i:Int)<0:=by omega
   have XH:(bs.map z7).set i [.bool true]=(bs.set i true).map z7:=by rw[List.map_set]
   have abw:out.map IU++[[DV.int .i64 i]]=(out++[i]).map IU:=by simp[IU]
   have hbi:i<bs.length:=by omega
   have ari:(i:Int)<n.eqs.length:=by omega
   have gbi:(bs.map z7).getD i []=[.bool (bs.getD i true)]:=Jy (by rw[List.getD_eq_getElem?_getD,List.getElem?_eq_getElem hbi];rfl);refine aq (A5 ho hi0 ari hb gbi) (JJ ?_);have hk:n.eqs.length-(out++[i]).length=n.eqs.length-out.length-1:=by simp;omega
   exact⟨(out++[i],bs.set i true),(CF (A2 XH abw)),⟨by simp[hb],by simp;omega,by dsimp only;rw[hr,hk,apA hb hil,List.append_assoc];rfl⟩,by dsimp only;rw[hk];omega⟩
 |succ j=>
  have hj0:((j+1:Nat):Int)-1=j:=by omega
  have e2:=e1 j (by omega);rw[hj0];have hjs:(j:Int)≥0:=by omega
  have htb:(bs.map z7).take n.eqs.length=bs.map z7:=List.take_of_length_le (by simp;omega);have aqH:Oo (((List.range n.eqs.length).drop j).find? rd)=if rd j then(j:Int)else Oo (((List.range n.eqs.length).drop (j+1)).find? rd):=by rw[Ef (by omega),List.find?_cons];cases rd j<;>rfl
  generalize rd j=b at*;cases b
  ·refine aq (A5 hjs e2 htb hb @Nat.le_refl) (JJ ?_);exact⟨j,(CF (A2 aqH @Bool.false_eq_true)),by omega,by omega⟩
  ·refine aq (A5 hjs e2 htb hb @Nat.le_refl) (JJ ?_);exact⟨j,(CF @aqH),by omega,by omega⟩
def Q1:List DV->Prop×DV:=bB bj λp=>(bx p=true,.agg (lV (kS p)))
def aau(p):=show Q1 [.agg (bT p)]=_ from aH dp _ p
theorem adJ{p:cY}(h:iU p=eu):kS p=aX J4 0 p.nodes:=by unfold kS;rw[if_neg (by rw[h];simp)]
theorem Sz{p}(h:¬iU p=eu):kS p=iU p:=by unfold kS;rw[if_pos h]
def inO(l:List Nat)(k:Nat):Bool:=l.any (·==k)
theorem ahZ{n:kZ}:(wN n).1.length<=n.eqs.length:=by
 have:∀(hs:List (List (List UInt8))) (k:Nat) (pl:List (List (List UInt8)×Bool)),(fH hs k pl).1.length<=k:=by
  intro hs k;induction k with
  |zero=>intro pl;simp[fH]
  |succ k ih=>
   intro pl;rw[fH];split
   ·simp
   ·have:=ih (place pl ‹Nat›);simpa using this
 exact this _ _ _
theorem Di:aF Tryz.prog 93 Q1:=by
 refine aF.mo (ps:=[(125,OK),(126,Q0),(95,vr)]) (hs:=[]) ⟨CE,adI,fi,trivial⟩ trivial Fk λp h=> ?_;dsimp only;have hP:bx p=true:=h;have e1:=XV p;rw[eq_true hP]at e1;obtain⟨Rc,zS⟩:=eO hP;by_cases c1:iU p=eu;rotate_left
 ·have hd:decide (iU p=eu)=false:=decide_eq_false c1;rw[Sz c1];generalize iU p=f at*;exact aq (A5 @og.eq_1 @bj.eq_1 e1 @Ms hd) zz;all_goals rfl
 rw[adJ c1];have hd:decide (iU p=eu)=true:=decide_eq_true c1;refine aq (A5 @og.eq_1 @bj.eq_1 e1 @Ms hd) (JJ ?_);refine ai p.nodes (λj (_:Unit)=>⟨[(1,.ref (bT p)),(2,.ptr 0 1 0 0),(4,.int .i64 j)],[⟨.loc,3,[lV eu]⟩,⟨.loc,3,[lV (iU p)]⟩]⟩) (λj r _=>aX J4 0 p.nodes=aX J4 j r) () (by decide) CT rfl (λj n r _ d hx hd hr=> ?_) (λj _ e hr=> ?_);rotate_left
 ·have hr:aX J4 0 p.nodes=eu:=hr;rw[hr];refine aq @e (JJ ?_);all_goals rfl
 rw[aX]at hr;have M7:=zS n (List.mem_of_getElem? hx);have e2:=aat n;rw[eq_true M7]at e2;have gn:=af ef hx;obtain⟨_,_,_,l4,_,_⟩:=cO M7;have XC:=ahZ (n:=n);have hT:J4 j n=if(wN n).2 then eu else match (List.range n.eqs.length).find? (λk=> !inO (wN n).1 k)with|some k=>((j:Int),(k:Int),9)|none=>eu:=rfl
 rw[hT]at hr;generalize wN n=oo at*;obtain⟨out,ob⟩:=oo;dsimp only at hr e2 XC;cases ob;rotate_left
 ·simp only[if_true]at hr;refine aq (A3 d gn e2) (JJ ?_);exact⟨(),CT,hr⟩
 simp only[Bool.false_eq_true,if_false]at hr;refine aq (A3 d gn e2) (JJ ?_);generalize hpr:(λk=> !inO out k)=pr at*;refine ai n.eqs (λk (_:Unit)=>⟨[(1,.ref (bT p)),(2,.ptr 0 1 0 0),(4,.int .i64 j),(5,.sl (out.map IU)),(7,.int .i64 k)],[⟨.loc,3,[lV eu]⟩,⟨.loc,3,[lV (iU p)]⟩]⟩) (λk q _=>(List.range n.eqs.length).find? pr=((List.range n.eqs.length).drop k).find? pr) () (by decide) CT rfl (λk x q _ dk RG hdk hq=> ?_) (λk _ ek hq=> ?_)
 ·rw[Ef dk,List.find?_cons]at hq;refine aq (A3 d gn dk) (JJ ?_);refine ai out (λm (b:Bool)=>⟨[(1,.ref (bT p)),(2,.ptr 0 1 0 0),(4,.int .i64 j),(5,.sl (out.map IU)),(7,.int .i64 k),(8,.bool b),(9,.int .i64 m)],[⟨.loc,3,[lV eu]⟩,⟨.loc,3,[lV (iU p)]⟩]⟩) (λm w b=>(b||w.any (·==k))=inO out k) false (by decide) CT rfl (λm y w b dm hy hdm hw=> ?_) (λm b em hw=> ?_)
  ·rw[List.any_cons]at hw;have gy:=af IU hy;cases b
   ·rw[Bool.false_or]at hw;by_cases hyk:y=k
    ·subst hyk;refine aq (A3 dm gy @IU.eq_1) (JJ ?_);all_goals exact⟨true,CT,by rw[<-hw];simp⟩
    ·have aAb:¬(y:Int)=k:=by omega
     have hb:(y==k)=false:=by simpa using hyk
     have hb2:((y:Int)==(k:Int))=false:=by simpa using aAb
     rw[hb,Bool.false_or]at hw;refine aq (A4 dm gy @IU.eq_1 hb2) (JJ ?_);all_goals exact⟨false,CT,hw⟩
   ·refine aq @dm (JJ ?_);all_goals exact⟨true,CT,by rw[<-hw];simp⟩
  ·rw[List.any_nil,Bool.or_false]at hw;have hpk:pr k= !b:=by rw[<-hpr,hw]
   rw[hpk]at hq;cases b
   ·have hq:(List.range n.eqs.length).find? pr=some k:=hq;rw[hq]at hr;have h9:¬(((j:Int),(k:Int),(9:Int)):Lp)=eu:=by simp[eu]
    rw[if_neg h9]at hr;refine aq (A2 @gL em) (JJ ?_);all_goals exact Lo hr
   ·have hq:(List.range n.eqs.length).find? pr=((List.range n.eqs.length).drop (k+1)).find? pr:=hq;refine aq @em (JJ ?_);all_goals exact⟨(),CT,hq⟩
 ·have hdn:(List.range n.eqs.length).drop k=[]:=List.drop_of_length_le (by simp;omega);rw[hdn]at hq;have hq:(List.range n.eqs.length).find? pr=none:=hq;rw[hq,if_pos rfl]at hr;refine aq (A3 d gn ek) (JJ ?_);all_goals exact⟨(),CT,hr⟩
def wZ(N:Nat):List DV->Prop×DV:=bB gC λe=>((ax e).length<N/\(ax e).length<=1000,.cy [.bool (l9 e).1,.bool (l9 e).2])
def K8(N)(e):=show wZ N [.agg (cA e)]=_ from aH fv _ e
def Ww(N:Nat):List DV->Prop×DV:=bB arO λl=>((∀x∈l,(ax x).length<N/\(ax x).length<=1000)/\l.length<=1000,.cy [.bool (fo l).1,.bool (fo l).2])
def adK(N)(l:List Ex):=show Ww N [.sl (l.map cA)]=_ from aH aoe _ l
theorem adL(x)(l):fo (x::l)=((l9 x).1||(fo l).1,(l9 x).2&&(fo l).2):=by rw[fo]
theorem amA(N)(hO:aF Tryz.prog 94 (wZ N)):aF Tryz.prog 127 (Ww N):=by
 refine aF.mo (ps:=[(94,wZ N)]) (hs:=[]) ⟨hO,trivial⟩ trivial HP λl h=> ?_;obtain⟨h1,h2⟩:=h;dsimp only;have e1:∀x∈l,wZ N [.agg (cA x)]=(True,.cy [.bool (l9 x).1,.bool (l9 x).2]):=λx hx=>by rw[K8,eq_true (h1 x hx)]
 refine aq (A2 @vO.eq_1 @arO.eq_1) (JJ ?_);refine ai l (λk (y:Bool×Bool)=>⟨[(0,.sl (l.map cA)),(4,.bool y.1),(5,.bool y.2),(6,.int .i64 k)],[]⟩) (λk r y=>(y.1||(fo r).1,y.2&&(fo r).2)=fo l) (false,true) (Nat.zero_le _) CT (by simp) (λk x r y d hx hd hr=> ?_) (λk y e hr=> ?_)
 ·rw[adL]at hr;have e2:=e1 x (List.mem_of_getElem? hx);have gx:=af cA hx;simp only[ag x]at e2 gx;obtain⟨y1,y2⟩:=y;generalize l9 x=z at*;obtain⟨z1,z2⟩:=z;dsimp only at hr e2;cases y1<;>cases y2<;>cases z1<;>cases z2;all_goals(refine aq (A3 d gx e2) (JJ ?_))
  ·exact⟨(false,false),CT,hr⟩
  ·exact⟨(false,false),CT,hr⟩
  ·exact⟨(true,false),CT,hr⟩
  ·exact⟨(true,false),CT,hr⟩
  ·exact⟨(false,false),CT,hr⟩
  ·exact⟨(false,true),CT,hr⟩
  ·exact⟨(true,false),CT,hr⟩
  ·exact⟨(true,true),CT,hr⟩
  ·exact⟨(true,false),CT,hr⟩
  ·exact⟨(true,false),CT,hr⟩
  ·exact⟨(true,false),CT,hr⟩
  ·exact⟨(true,false),CT,hr⟩
  ·exact⟨(true,false),CT,hr⟩
  ·exact⟨(true,true),CT,hr⟩
  ·exact⟨(true,false),CT,hr⟩
  ·exact⟨(true,true),CT,hr⟩
 ·obtain⟨y1,y2⟩:=y;have hr:(y1,y2)=fo l:=by rw[<-hr];show _=(y1||(fo []).1,y2&&(fo []).2);rw[fo];simp
  rw[<-hr];exact aq @e zz;all_goals rfl
theorem amB(N)(hO:aF Tryz.prog 94 (wZ N)):aF Tryz.prog 94 (wZ (N+1)):=by
 refine aF.mo (ps:=[(127,Ww N),(94,wZ N)]) (hs:=[]) ⟨amA N hO,hO,trivial⟩ trivial vM λe h=> ?_;obtain⟨h1,h2⟩:=h;dsimp only;have hs:=jm e;have h3:=iB e.ar;have h4:=jb e;have e1:=adK N e.ar;rw[eq_true (show(∀x∈e.ar,(ax x).length<N/\(ax x).length<=1000)/\e.ar.length<=1000 from⟨λx hx=>by have:=jK hx;omega,by omega⟩)]at e1;have e2:∀x∈e.ar,wZ N [.agg (cA x)]=(True,.cy [.bool (l9 x).1,.bool (l9 x).2]):=λx hx=>by have:=jK hx;rw[K8,eq_true (show(ax x).length<N/\(ax x).length<=1000 from⟨by omega,by omega⟩)]
 have hz:=akg e;rw[hz];generalize hL:fo e.ar=L at*;obtain⟨L1,L2⟩:=L;dsimp only at e1|-;by_cases c9:e.kind=9
 ·rw[if_neg (by omega),if_pos c9];by_cases hp:0<e.ar.length
  ·rw[if_pos hp];have g0:=af cA (hU hp);have hm:=List.mem_of_getElem? (hU hp);have e3:=e2 _ hm;have h0:aep e.ar=(l9 (e.ar.getD 0 default)).1:=by
    revert hp;cases e.ar with
    |nil=>intro hp;simp at hp
    |cons x l=>intro _;rw[aep];rfl
   rw[h0];generalize e.ar.getD 0 default=x at*;simp only[ag x]at g0 e3;have gh:(0:Int)<e.ar.length:=by omega
   generalize l9 x=z at*;obtain⟨z1,z2⟩:=z;exact aq (A8 @ly.eq_1 @gC.eq_1 (ag e) c9 e1 e3 g0 gh) zz;all_goals(simp_all;done)
  ·rw[if_neg hp];have gh:¬(0:Int)<e.ar.length:=by omega
   exact aq (A6 @ly.eq_1 @gC.eq_1 (ag e) c9 e1 gh) zz;all_goals(simp_all;done)
 refine aq (A5 @ly.eq_1 @gC.eq_1 (ag e) c9 e1) (A8 ?_ ?_ ?_ ?_ ?_ ?_ ?_ (JJ ?_))<;>intros;all_goals(simp_all;done)
theorem aav:∀N,aF Tryz.prog 94 (wZ N)
 |0=>aF.mo (ps:=[]) (hs:=[]) trivial trivial vM λe h=>absurd h.1 (Nat.not_lt_zero _)
 |N+1=>amB N (aav N)
def Ou:List DV->Prop×DV:=bB bj λp=>(bx p=true,.agg (lV (nJ p)))
def XO(p):=show Ou [.agg (bT p)]=_ from aH dp _ p
theorem adM{p:cY}(h:kS p=eu):nJ p=aX J5 0 p.nodes:=by unfold nJ;rw[if_neg (by rw[h];simp)]
theorem Sy{p}(h:¬kS p=eu):nJ p=kS p:=by unfold nJ;rw[if_pos h]
def Qh(j:Nat)(k:Nat)(x:wq):Lp:=if(l9 x.e).1|| !(l9 x.e).2 then((j:Int),(k:Int),10)else eu
theorem CA:aF Tryz.prog 66 Ou:=by
 refine aF.mo (ps:=[(93,Q1),(94,wZ 300),(95,vr)]) (hs:=[]) ⟨Di,aav 300,fi,trivial⟩ trivial Fj λp h=> ?_;dsimp only;have hP:bx p=true:=h;have e1:=aau p;rw[eq_true hP]at e1;obtain⟨Rc,zS⟩:=eO hP;by_cases c1:kS p=eu;rotate_left
 ·have hd:=decide_eq_false c1;rw[Sy c1];generalize kS p=f at*;exact aq (A5 @oe.eq_1 @bj.eq_1 e1 @Ms hd) zz;all_goals rfl
 rw[adM c1];have hd:=decide_eq_true c1;refine aq (A5 @oe.eq_1 @bj.eq_1 e1 @Ms hd) (JJ ?_);refine ai p.nodes (λj (_:Unit)=>⟨[(1,.ref (bT p)),(2,.ptr 0 1 0 0),(4,.int .i64 j)],[⟨.loc,3,[lV eu]⟩,⟨.loc,3,[lV (kS p)]⟩]⟩) (λj r _=>aX J5 0 p.nodes=aX J5 j r) () (by decide) CT rfl (λj n r _ d hx hd hr=> ?_) (λj _ e hr=> ?_);rotate_left
 ·have hr:aX J5 0 p.nodes=eu:=hr;rw[hr];refine aq @e (JJ ?_);all_goals rfl
 rw[aX]at hr;have M7:=zS n (List.mem_of_getElem? hx);have gn:=af ef hx;obtain⟨_,_,_,l4,_,l6⟩:=cO M7;have hT:J5 j n=aX (Qh j) 0 n.eqs:=rfl;rw[hT]at hr;refine aq @d (JJ ?_);refine ai n.eqs (λk (_:Unit)=>⟨[(1,.ref (bT p)),(2,.ptr 0 1 0 0),(4,.int .i64 j),(5,.int .i64 k)],[⟨.loc,3,[lV eu]⟩,⟨.loc,3,[lV (kS p)]⟩]⟩) (λk q _=>aX (Qh j) 0 n.eqs=aX (Qh j) k q) () (by decide) CT rfl (λk x q _ dk RG hdk hq=> ?_) (λk _ ek hq=> ?_)
 ·rw[aX]at hq;have hsx:=(l6 x (List.mem_of_getElem? RG)).2;have e5:=K8 300 x.e;rw[eq_true (show(ax x.e).length<300/\(ax x.e).length<=1000 from⟨kL hsx,BH hsx⟩)]at e5;simp only[ag x.e]at e5;have gx:=af kO RG;have hl:Qh j k x=if(l9 x.e).1|| !(l9 x.e).2 then((j:Int),(k:Int),10)else eu:=rfl;rw[hl]at hq;generalize l9 x.e=z at*;obtain⟨z1,z2⟩:=z;have h7:¬(((j:Int),(k:Int),(10:Int)):Lp)=eu:=by simp[eu]
  cases z1<;>cases z2;all_goals dsimp only at hq
  ·rw[if_pos (show(false|| !false)=true from rfl),if_neg h7]at hq;rw[hq,if_neg h7]at hr;refine aq (A6 @gL d gn dk gx e5) (JJ ?_);all_goals exact Lo hr
  ·rw[if_neg (show¬(false|| !true)=true from by decide),if_pos rfl]at hq;refine aq (A5 d gn dk gx e5) (JJ ?_);all_goals exact⟨(),CT,hq⟩
  ·rw[if_pos (show(true|| !false)=true from rfl),if_neg h7]at hq;rw[hq,if_neg h7]at hr;refine aq (A6 @gL d gn dk gx e5) (JJ ?_);all_goals exact Lo hr
  ·rw[if_pos (show(true|| !true)=true from rfl),if_neg h7]at hq;rw[hq,if_neg h7]at hr;refine aq (A6 @gL d gn dk gx e5) (JJ ?_);all_goals exact Lo hr
 ·have hq:_=eu:=hq;rw[hq,if_pos rfl]at hr;refine aq (A3 d gn ek) (JJ ?_);all_goals exact⟨(),CT,hr⟩
end
end Go.Proofs.YtcokmopocppmiaaGreat

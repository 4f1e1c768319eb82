/- Programs: types: the walk (16), small functions; what the functions between tell, spelled as they are. -/
import Derived.Test.YtcokmopocppmiaaGreatPgD
import Derived.Test.YtcokmopocppmiaaGreatStQ
set_option linter.all false
set_option maxRecDepth 20000
namespace Go.Proofs.YtcokmopocppmiaaGreat
noncomputable section
open Go.Nk
def OT:List DV->Prop×DV:=bB tW λt=>(True,.bool (jF t))
theorem JQ(t:Ty):OT [.agg (cK t)]=(True,.bool (jF t)):=aH qf _ t
theorem mU:aF Tryz.prog 177 OT:=by refine aF.mo (ps:=[]) (hs:=[]) trivial trivial Ez λt _=> ?_;obtain⟨a,b,c⟩:=t;refine aq (A4 @tX.eq_1 @tW.eq_1 @oO @hZ) (JJ ?_);all_goals rfl
def abM:List DV->Prop×DV:=bB tW λt=>(True,.bool (qH t))
theorem SH(t:Ty):abM [.agg (cK t)]=(True,.bool (qH t)):=aH qf _ t
theorem CI:aF Tryz.prog 179 abM:=by refine aF.mo (ps:=[]) (hs:=[]) trivial trivial EA λt _=> ?_;obtain⟨a,b,c⟩:=t;refine aq (A4 @tY.eq_1 @tW.eq_1 @oO @hZ) (JJ ?_);all_goals rfl
def Vj:List DV->Prop×DV:=bB tW λt=>(True,.agg (cK (unT t)))
theorem OU(t:Ty):Vj [.agg (cK t)]=(True,.agg (cK (unT t))):=aH qf _ t
theorem Hd:aF Tryz.prog 178 Vj:=by refine aF.mo (ps:=[]) (hs:=[]) trivial trivial JS λt _=> ?_;obtain⟨a,b,c⟩:=t;refine aq (A2 @xE.eq_1 @tW.eq_1) (JJ ?_);all_goals rfl
def Na:List DV->Prop×DV:=bB qi λl=>(l.length<=1000,.bool (Dq l))
theorem OV(l:List Ty):Na [.sl (l.map cK)]=(l.length<=1000,.bool (Dq l)):=aH Nb _ l
theorem abN(t:Ty)(r:List Ty):Dq (t::r)=r.all λx=>mT x t:=by simp only[Dq,List.all_cons,List.getD_cons_zero,decide_true,Bool.true_and];congr 1;funext x;rw[hZ]
theorem vw:aF Tryz.prog 172 Na:=by
 refine aF.mo (ps:=[]) (hs:=[]) trivial trivial JT λl h=> ?_;try dsimp only at h
 have h:l.length<=1000:=h;cases l with
 |nil=>
  refine aq (A2 @qj.eq_1 @qi.eq_1) (JJ ?_);refine ai ([]:List Ty) (λk (_:Unit)=>⟨[(0,.sl []),(3,.int .i64 (k+1))],[]⟩) (λk r _=>True) () (Nat.zero_le _) CT trivial (λk x r _ d hx hd hr=> ?_) (λk _ e hr=> ?_)
  ·exact absurd d (by simp)
  ·have e:k=0:=e;subst e;refine aq trivial (JJ ?_);all_goals rfl
 |cons t r=>
  rw[abN];have hl:r.length<=999:=by simpa using h
  have g0:((t::r).map cK).getD 0 []=cK t:=rfl;refine aq (A2 @qj.eq_1 @qi.eq_1) (JJ ?_);refine ai r (λk (_:Unit)=>⟨[(0,.sl ((t::r).map cK)),(3,.int .i64 ((k+1:Nat):Int))],[]⟩) (λk q _=>(r.all λx=>mT x t)=q.all λx=>mT x t) () (Nat.zero_le _) CT rfl (λk x q _ d hx hd hr=> ?_) (λk _ e hr=> ?_)
  ·rw[List.all_cons]at hr;have gk:(r.map cK).getD k []=cK x:=af cK hx;have h0:(0:Int)<((r.length+1:Nat):Int):=by omega
   have h0':(0:Int)<=((k+1:Nat):Int):=by omega
   have d1:((k+1:Nat):Int)<r.length+1:=by omega
   have hk:((k+1:Nat):Int).toNat=k+1:=Int.toNat_natCast _;cases hq:mT x t;all_goals(refine aq (A6 gk hk hq h0 h0' @oO) (JJ (λhn=> ?_)))
   all_goals first|exact⟨(),CT,by rw[hr,hq];rfl⟩|(rw[hr,hq];rfl)
  ·have hr:_=true:=hr;have d1:¬((k+1:Nat):Int)<r.length+1:=by omega
   rw[hr];exact aq trivial zz;all_goals rfl
theorem SJ{z n:Nat}{s:DS}{a:Option Nat}:Mz z s (.load a (.t n))=OW z s.hp (get n s.fr):=rfl
theorem X1{z h a b c:Nat}{hp:List ak}:OW z hp (.ptr h a b c)=(match hp[h]? with|some o=>o.k≠ .dead/\o.z≠z|none=>False):=rfl
def pS(l:List En)(e:Ex):Int×Ty×Bool:=
 if e.kind=1 then(e.n,⟨1,0,0⟩,true)else if e.kind=2 then(e.n,⟨2,0,0⟩,true)
 else if e.kind=5 then(IntKind.i64.wrap (0-(e.ar.getD 0 default).n),⟨1,0,0⟩,true)else((fA l e.name).2.1,(fA l e.name).1,(fA l e.name).2.2)
theorem X2(l:List En)(e:Ex):abO l e=if(pS l e).2.2 then some ((pS l e).1,(pS l e).2.1)else none:=by
 unfold abO pS;repeat' split
 all_goals simp_all
def Vk:List DV->Prop×DV:=b5 lN gC λl e=>(AJ l/\(e.kind=5->0<e.ar.length),.cy [.int .i64 (pS l e).1,.agg (cK (pS l e).2.1),.bool (pS l e).2.2])
theorem SK(l:List En)(e:Ex):Vk [.sl (l.map jQ),.agg (cA e)]=(AJ l/\(e.kind=5->0<e.ar.length),.cy [.int .i64 (pS l e).1,.agg (cK (pS l e).2.1),.bool (pS l e).2.2]):=aO mr fv _ l e
theorem zT:aF Tryz.prog 171 Vk:=by
 refine aF.oU (ps:=[(97,xC)]) (hs:=[]) ⟨cG,trivial⟩ trivial AV λl e h=> ?_;try dsimp only at h
 obtain⟨h1,h2⟩:=h;have e1:=nh l e.name;rw[eq_true h1]at e1;by_cases k5:e.kind=5
 ·have g0:(e.ar.map cA).getD 0 []=cA (e.ar.getD 0 default):=af cA (hU (h2 k5));have h3:(0:Int)<e.ar.length:=by have:=h2 k5;omega
  have hg:=ag (e.ar.getD 0 default);have hz:pS l e=(IntKind.i64.wrap (0-(e.ar.getD 0 default).n),⟨1,0,0⟩,true):=by simp[pS,k5]
  rw[hz];generalize e.ar.getD 0 default=x at*;rw[hg]at g0;exact aq (A7 @lW.eq_1 @lN.eq_1 @gC.eq_1 (ag e) k5 g0 h3) zz;all_goals rfl
 ·have hz:pS l e=if e.kind=1 then(e.n,⟨1,0,0⟩,true)else if e.kind=2 then(e.n,⟨2,0,0⟩,true)else((fA l e.name).2.1,(fA l e.name).1,(fA l e.name).2.2):=by simp only[pS,k5,if_false]
  rw[hz];refine aq (A5 @lW.eq_1 @lN.eq_1 @gC.eq_1 (ag e) e1) (A3 ?_ ?_ (JJ ?_))<;>intros;all_goals(simp_all;done)
theorem agi{l:List En}{first:Bool}{t:Ty}{x:Ex}{r:List Ex}:pW l first t (x::r)=if(pS l x).2.2=false\/(first=false/\(pS l x).2.1≠t)then none else(pW l false (pS l x).2.1 r).map λy=>((pS l x).1::y.1,y.2):=by rw[pW,X2];cases (pS l x).2.2<;>simp
def He(n:Int):List DV:=[.int .i64 n]
theorem Er{e x:Ex}(h:er e=true)(hx:x∈e.ar):er x=true:=by simp only[er,Bool.and_eq_true,decide_eq_true_eq,List.all_eq_true]at h|-;have h1:=EB (oC hx x (iJ x));exact⟨by omega,λy hy=>h.2 y (oC hx y hy)⟩
theorem AP{e:Ex}(h:er e=true):e.ar.length<=200:=by simp only[er,Bool.and_eq_true,decide_eq_true_eq]at h;have h3:=iB e.ar;have h4:=jb e;omega
theorem Hc{e:Ex}(h:mV e=true):∀x∈ax e,ew x=true:=by simp only[mV,Bool.and_eq_true,List.all_eq_true]at h;exact h.2
def jkO:Option Ty->List ak
 |none=>[]
 |some t=>[⟨.loc,3,[cK t]⟩]
theorem xF:jkO none=[]:=rfl
theorem pw(t:Ty):jkO (some t)=[⟨.loc,3,[[.int .i64 t.k,.int .i64 t.e,.int .i64 t.n]]⟩]:=rfl
def G3:List DV->Prop×DV:=b5 lN gC λl e=>(AJ l/\er e=true,.cy [.sl (((cC l e).getD ([],⟨0,0,0⟩)).1.map He),.agg (cK ((cC l e).getD ([],⟨0,0,0⟩)).2),.bool (cC l e).isSome])
theorem AH(l:List En)(e:Ex):G3 [.sl (l.map jQ),.agg (cA e)]=(AJ l/\er e=true,.cy [.sl (((cC l e).getD ([],⟨0,0,0⟩)).1.map He),.agg (cK ((cC l e).getD ([],⟨0,0,0⟩)).2),.bool (cC l e).isSome]):=aO mr fv _ l e
theorem sr:aF Tryz.prog 151 G3:=by
 refine aF.oU (ps:=[(169,Hf),(170,Hg),(171,Vk)]) (hs:=[]) ⟨sw,sx,zT,trivial⟩ trivial EC λl e h=> ?_;try dsimp only at h
 obtain⟨hE,hS⟩:=h;have hl2:=AP hS;have e1:=Lq e;have e2:=Lr e;rw[eq_true hS]at e1;rw[eq_true (show e.ar.length<=1000000000 by omega)]at e2;simp only[ag e]at e1 e2;by_cases c:(mV e&&wG e)=true;rotate_left
 ·have hz:cC l e=none:=by unfold cC;rw[if_pos (by revert c;cases mV e<;>cases wG e<;>simp)]
  rw[hz];refine aq (A6 @ko.eq_1 @lN.eq_1 @gC.eq_1 (ag e) e1 e2) (A4 ?_ ?_ ?_ (JJ ?_))<;>intros;all_goals first|rfl|(exfalso;simp_all;done)
 simp only[Bool.and_eq_true]at c;obtain⟨c1,c2⟩:=c;rw[c1]at e1;rw[c2]at e2;have hp:=Hc c1;have z8:=dF (hp e (iJ e));by_cases c14:e.kind=14;rotate_left
 ·have hz:cC l e=if(pS l e).2.2=true then some ([(pS l e).1],(pS l e).2.1)else none:=by unfold cC;rw[c1,c2,if_neg (by simp),if_pos c14,X2];cases (pS l e).2.2<;>rfl
  rw[hz];have e3:=SK l e;rw[eq_true (show AJ l/\(e.kind=5->0<e.ar.length) from⟨hE,λhh=>by obtain⟨a,ha⟩:=z8.1 (.inl hh);rw[ha];simp⟩)]at e3;simp only[ag e]at e3;cases hb:(pS l e).2.2<;>rw[hb]at e3;all_goals(refine aq (A7 @ko.eq_1 @lN.eq_1 @gC.eq_1 (ag e) e1 e2 e3) (JJ (λhn=> ?_)))
  all_goals rfl
 have hz:cC l e=(pW l true ⟨0,0,0⟩ e.ar).map λx=>(x.1,⟨x.2.k,x.2.e,x.1.length⟩):=by unfold cC;rw[c1,c2,if_neg (by simp),if_neg (by simpa using c14)]
 rw[hz];have e3:∀x∈e.ar,Vk [.sl (l.map jQ),.agg (cA x)]=(True,.cy [.int .i64 (pS l x).1,.agg (cK (pS l x).2.1),.bool (pS l x).2.2]):=λx hx=>by have:=SK l x;rw[eq_true (show AJ l/\(x.kind=5->0<x.ar.length) from⟨hE,λhh=>by obtain⟨a,ha⟩:=(dF (hp x (oC hx x (iJ x)))).1 (.inl hh);rw[ha];simp⟩)]at this;exact this
 rw[c14]at e1 e2;refine aq (A7 @ko.eq_1 @lN.eq_1 @gC.eq_1 (ag e) e1 e2 c14) (JJ ?_);refine ai e.ar (λk (x:List Int×Ty×Option Ty)=>⟨[(0,.sl (l.map jQ)),(3,.ref (cA e)),(5,.ptr 0 1 0 0),(10,.own 1 x.1.length 0 x.1.length),(11,.ptr 2 1 0 0),(12,.int .i64 k)],[⟨.loc,3,[cK ⟨0,0,0⟩]⟩,⟨.aN,1,x.1.map He⟩,⟨.loc,3,[cK x.2.1]⟩]++jkO x.2.2⟩)
  (λk r x=>x.1.length=k/\pW l true ⟨0,0,0⟩ e.ar=(pW l (decide (k=0)) x.2.1 r).map λy=>(x.1++y.1,y.2)) ([],⟨0,0,0⟩,none) (by decide) (CF (A3 (ag e) c14 @xF)) ⟨rfl,?_⟩ (λk x r a d hx hd hr=> ?_) (λk a ek hr=> ?_)
 ·show _=Option.map _ (pW l true ⟨0,0,0⟩ e.ar);cases pW l true ⟨0,0,0⟩ e.ar<;>rfl
 ·obtain⟨out,ft,jk⟩:=a;obtain⟨hlen,hr⟩:=hr;dsimp only at hlen hr;rw[agi]at hr;have e4:=e3 x (List.mem_of_getElem? hx);have hg:=ag x;simp only[hg]at e4;have gx:=af cA hx;rw[hg]at gx;generalize pS l x=q at*;obtain⟨q1,⟨q2,q3,q4⟩,q5⟩:=q;obtain⟨f1,f2,f3⟩:=ft;cases q5
  ·rw[if_pos (.inl rfl)]at hr;rw[hr];rcases jk with _|⟨j1,j2,j3⟩;all_goals(refine aq (A7 (ag e) d gx e4 c14 @xF @pw) (JJ ?_))
   all_goals rfl
  cases k with
  |zero=>
   rw[if_neg (by simp)]at hr;rcases jk with _|⟨j1,j2,j3⟩;all_goals(refine aq (A8 (ag e) gx e4 c14 @xF @pw @SJ @X1) (JJ (λhn=> ?_)))
   ·exact⟨(out++[q1],⟨q2,q3,q4⟩,some ⟨q2,q3,q4⟩),(CF (A3 @List.map_append.{0,0} @He.eq_1 @pw)),by simp[hlen],by rw[hr];cases pW l false ⟨q2,q3,q4⟩ r<;>simp⟩
   ·exact⟨(out++[q1],⟨q2,q3,q4⟩,some ⟨j1,j2,j3⟩),(CF (A3 @List.map_append.{0,0} @He.eq_1 @pw)),by simp[hlen],by rw[hr];cases pW l false ⟨q2,q3,q4⟩ r<;>simp⟩
  |succ k=>
   have z9:((k+1:Nat):Int)>0:=by omega
   by_cases hq:(⟨q2,q3,q4⟩:Ty)=⟨f1,f2,f3⟩;rotate_left
   ·rw[if_pos (.inr ⟨rfl,hq⟩)]at hr;have hb:mT ⟨q2,q3,q4⟩ ⟨f1,f2,f3⟩=false:=by rw[hZ];exact decide_eq_false hq
    rw[hr];rcases jk with _|⟨j1,j2,j3⟩;all_goals(refine aq (A9 (ag e) d gx e4 c14 z9 hb @xF (A2 @pw @oO)) (JJ ?_))
    all_goals rfl
   rw[if_neg (by simp[hq])]at hr;have hb:mT ⟨q2,q3,q4⟩ ⟨f1,f2,f3⟩=true:=by rw[hZ];exact decide_eq_true hq
   rcases jk with _|⟨j1,j2,j3⟩;all_goals(refine aq (A9 (ag e) d gx e4 c14 z9 hb @xF (A4 @pw @SJ @X1 @oO)) (JJ ?_))
   ·exact⟨(out++[q1],⟨q2,q3,q4⟩,some ⟨q2,q3,q4⟩),(CF (A3 @List.map_append.{0,0} @He.eq_1 @pw)),by simp[hlen],by rw[hr];cases pW l false ⟨q2,q3,q4⟩ r<;>simp⟩
   ·exact⟨(out++[q1],⟨q2,q3,q4⟩,some ⟨j1,j2,j3⟩),(CF (A3 @List.map_append.{0,0} @He.eq_1 @pw)),by simp[hlen],by rw[hr];cases pW l false ⟨q2,q3,q4⟩ r<;>simp⟩
 ·obtain⟨out,ft,jk⟩:=a;obtain⟨hlen,hr⟩:=hr;dsimp only at hlen hr;have hr:pW l true ⟨0,0,0⟩ e.ar=some (out++[],ft):=hr;rw[List.append_nil]at hr;rw[hr];obtain⟨f1,f2,f3⟩:=ft;have XC:(out.map He).take e.ar.length=out.map He:=List.take_of_length_le (by simp;omega);rcases jk with _|⟨j1,j2,j3⟩;all_goals(refine aq (A7 (ag e) ek c14 XC hlen @xF @pw) (JJ ?_))
  all_goals rfl
def inE(l:List En)(t:Ty):Prop:=t.k=3->t.n=0->0<=t.e/\t.e<l.length
theorem agj{l:List En}{t:Ty}(h:bq l t=true):inE l t:=λhk _=>by simp only[bq,Bool.and_eq_true,decide_eq_true_eq,hk,if_true]at h;exact h.2
theorem agk{x y:List UInt8}{a b:List (List UInt8)}:(x::a==y::b)=(x==y&&a==b):=by rfl
def Vl:List DV->Prop×DV:=eR lN tW eSs λl t a=>(AJ l/\inE l t/\a.length<=1000000,.bool (Dr l t a))
theorem abQ(l:List En)(t:Ty)(a:List (List UInt8)):Vl [.sl (l.map jQ),.agg (cK t),.sl (dI a)]=(AJ l/\inE l t/\a.length<=1000000,.bool (Dr l t a)):=bz mr qf aj7 _ l t a
theorem ED:aF Tryz.prog 173 Vl:=by
 refine aF.uR (ps:=[(177,OT)]) (hs:=[]) ⟨mU,trivial⟩ trivial Hh λl t a h=> ?_;try dsimp only at h
 obtain⟨h1,h2,h3⟩:=h;have e1:=JQ t;obtain⟨tk,te,tn⟩:=t;simp only[cK]at e1;cases ht:jF ⟨tk,te,tn⟩;rotate_left
 ·rw[ht]at e1;have hz:Dr l ⟨tk,te,tn⟩ a=(a==[[116,114,117,101],[102,97,108,115,101]]):=by rw[Dr,if_pos ht]
  rw[hz];match a with
  |[]=>(refine aq (A6 @dw.eq_1 @lN.eq_1 @eSs.eq_1 @tW.eq_1 @aj e1) (JJ ?_))
       all_goals rfl
  |[x]=>(refine aq (A6 @dw.eq_1 @lN.eq_1 @eSs.eq_1 @tW.eq_1 @aj e1) (JJ ?_))
        all_goals simp
  |[x,y]=>
   have g0:(dI [x,y]).getD 0 []=[.str x]:=rfl;have g1:(dI [x,y]).getD 1 []=[.str y]:=rfl;refine aq (A8 @dw.eq_1 @lN.eq_1 @eSs.eq_1 @tW.eq_1 @aj e1 g0 g1) (A2 ?_ (JJ ?_))<;>intros;all_goals simp_all
  |x::y::z::r=>
   have hc:¬(((x::y::z::r).length:Nat):Int)=2:=by simp only[List.length_cons];omega
   refine aq (A6 @dw.eq_1 @lN.eq_1 @eSs.eq_1 @tW.eq_1 @aj e1) (JJ (λhn=> ?_));all_goals simp
 rw[ht]at e1;have hz:Dr l ⟨tk,te,tn⟩ a=if tk≠3\/tn≠0 then false else a==(l.getD te.toNat default).ct:=by rw[Dr,if_neg (by rw[ht];simp)]
 rw[hz];by_cases c:tk≠3\/tn≠0
 ·rw[if_pos c];by_cases c1:tk=3
  ·have c2:¬tn=0:=by omega
   rw[c1]at e1;exact aq (A6 @dw.eq_1 @lN.eq_1 @eSs.eq_1 @tW.eq_1 e1 c1) zz
  ·exact aq (A5 @dw.eq_1 @lN.eq_1 @eSs.eq_1 @tW.eq_1 e1) zz
 have c1:tk=3:=by omega
 have c2:tn=0:=by omega
 obtain⟨i1,i2⟩:=h2 c1 c2;dsimp only at i1 i2;obtain⟨m,rfl⟩:=Int.eq_ofNat_of_zero_le i1;rw[if_neg c];have hm:m<l.length:=by omega
 have gm:=af jQ (hU hm);simp only[Int.toNat_natCast];generalize l.getD m default=en at*;rw[c1,c2]at e1;by_cases c3:a.length=en.ct.length;rotate_left
 ·have hb:(a==en.ct)=false:=by rw[beq_eq_false_iff_ne];intro hh;exact c3 (by rw[hh])
  have c3':¬(a.length:Int)=en.ct.length:=by omega
  rw[hb];exact aq (A9 @dw.eq_1 @lN.eq_1 @eSs.eq_1 @tW.eq_1 @aj e1 c1 c2 (A2 i2 gm)) zz;all_goals rfl
 have c3':(a.length:Int)=en.ct.length:=by omega
 refine aq (A9 @dw.eq_1 @lN.eq_1 @eSs.eq_1 @tW.eq_1 @aj e1 c1 c2 (A3 i2 gm c3')) (JJ ?_);refine ai a (λj (_:Unit)=>⟨[(0,.sl (l.map jQ)),(2,.sl (dI a)),(4,.ref (cK ⟨3,m,0⟩)),(7,.int .i64 j)],[]⟩) (λj r _=>(a==en.ct)=(r==en.ct.drop j)) () (Nat.zero_le _) CT rfl (λj x r _ d hx hd hr=> ?_) (λj _ e hr=> ?_)
 ·have dj:j<en.ct.length:=by omega
  have hy:=List.getElem?_eq_getElem dj;generalize en.ct[j]=y at*;have hdr:en.ct.drop j=y::en.ct.drop (j+1):=by obtain⟨z,q1,q2⟩:=dP en.ct dj;rw[q1]at hy;injection hy with hy;subst hy;obtain⟨w1,w2⟩:=List.getElem?_eq_some_iff.1 q1;rw[List.drop_eq_getElem_cons dj,w2]
  rw[hdr,agk]at hr;have g1:=fk hx;have g2:=fk hy;have d':(j:Int)<en.ct.length:=by omega
  refine aq (A7 @aj i2 gm g1 g2 d dj) (A2 (λhn=> ?_) (JJ (λhn=> ?_)));all_goals first
   |exact⟨(),CT,by rw[hr];simp[hn]⟩
   |(rw[hr];simp[hn];done)
 ·have hdr:en.ct.drop j=[]:=List.drop_of_length_le (by omega);rw[hdr]at hr;have hr:_=true:=hr;rw[hr];exact aq (A3 @aj e c3) zz;all_goals rfl
theorem SL{d:rN}{l:List rN}{t:Ty}{r:List Ty}:OX (d::l) (t::r)=(decide (d.ty=t)&&OX l r):=rfl
def M9:List DV->Prop×DV:=eR bj gC qi λp e t=>(bx p=true/\(e.n=0\/e.n=1)/\t.length<=1000,.cy [.int .i64 (((ra p e t).getD 0:Nat):Int),.bool (ra p e t).isSome])
theorem OQ(p:cY)(e:Ex)(t:List Ty):M9 [.agg (bT p),.agg (cA e),.sl (t.map cK)]=(bx p=true/\(e.n=0\/e.n=1)/\t.length<=1000,.cy [.int .i64 (((ra p e t).getD 0:Nat):Int),.bool (ra p e t).isSome]):=bz dp fv Nb _ p e t
theorem tV:aF Tryz.prog 174 M9:=by
 refine aF.uR (ps:=[(150,G2),(177,OT)]) (hs:=[]) ⟨nM,mU,trivial⟩ trivial Hi λp e t h=> ?_;try dsimp only at h
 obtain⟨h1,h2,h3⟩:=h;have e1:=Eo p e.name;rw[eq_true h1]at e1;by_cases c1:iR p e.name<0
 ·have hz:ra p e t=none:=by rw[ra,if_pos c1]
  rw[hz];refine aq (A7 @gG.eq_1 @gC.eq_1 @bj.eq_1 @qi.eq_1 (ag e) e1 c1) (JJ ?_);all_goals rfl
 obtain⟨m,hm⟩:=Int.eq_ofNat_of_zero_le (show 0<=iR p e.name by omega);obtain⟨g,hg⟩:=xD hm;have hmn:=af ef hg;have hng:=fa hg;have hml:=(List.getElem?_eq_some_iff.1 hg).1;have hgs:=(eO h1).2 g (List.mem_of_getElem? hg);have Rc:=(eO h1).1;obtain⟨l1,_⟩:=cO hgs;have hz:ra p e t=if(t.length:Int)-e.n≠g.ins.length\/(e.n=1/\jF (t.getD (t.length-e.n.toNat) default)=false)then none
  else if OX g.ins t then some m else none:=by
  rw[ra,if_neg c1,hm,Int.toNat_natCast,hng]
 rw[hz];rw[hm]at e1;have JP:(m:Int)<p.nodes.length:=by omega
 have zo:¬(m:Int)<0:=by omega
 by_cases c2:(t.length:Int)-e.n=g.ins.length;rotate_left
 ·rw[if_pos (.inl c2)];refine aq (A9 @gG.eq_1 @gC.eq_1 @bj.eq_1 @qi.eq_1 (ag e) e1 @zo hmn JP) (JJ (λhn=> ?_));all_goals rfl
 rcases h2 with h2|h2
 ·rw[if_neg (by rw[h2];rintro(hh|⟨hh,_⟩);exact hh (by rw[<-h2];exact c2);exact absurd hh (by decide))];have c2':(t.length:Int)=g.ins.length:=by omega
  refine aq (A9 @gG.eq_1 @gC.eq_1 @bj.eq_1 @qi.eq_1 (ag e) h2 e1 @zo (A3 hmn JP c2')) (JJ (λhn=> ?_));refine ai g.ins (λj (_:Unit)=>⟨[(2,.sl (t.map cK)),(3,.ref (bT p)),(8,.int .i64 m),(9,.int .i64 g.ins.length),(10,.int .i64 j)],[]⟩) (λj r _=>OX g.ins t=OX r (t.drop j)) () (Nat.zero_le _) CT rfl (λj x r _ d hx hd hr=> ?_) (λj _ e hr=> ?_)
  ·have dj:j<t.length:=by omega
   obtain⟨y,q1,q2⟩:=dP t dj;rw[q2,SL]at hr;have g1:=af fR hx;have g2:=af cK q1;obtain⟨nm,ty,on,ct⟩:=x;obtain⟨x1,x2,x3⟩:=ty;obtain⟨y1,y2,y3⟩:=y;dsimp only at hr;rw[<-hZ]at hr;cases hq:mT ⟨x1,x2,x3⟩ ⟨y1,y2,y3⟩;all_goals(refine aq (A8 hmn JP g1 g2 d dj hq @oO) (JJ ?_))
   all_goals first
    |exact⟨(),CT,by rw[hr,hq,Bool.true_and]⟩
    |(rw[hr,hq];exact⟨rfl,rfl⟩)
  ·have hr:OX g.ins t=true:=by rw[hr];rfl
   rw[if_pos hr];refine aq @e (JJ ?_);all_goals rfl
 rw[h2]at c2;have htl:((t.length:Int)-1).toNat=t.length-1:=by omega
 have hln:(g.ins.length:Int).toNat=g.ins.length:=Int.toNat_natCast _;have fM:g.ins.length<t.length:=by omega
 have q1:=af cK (hU fM);have q2:=JQ (t.getD g.ins.length default);have JU:t.length-(1:Int).toNat=g.ins.length:=by omega
 have AA:(g.ins.length:Int)<t.length:=by omega
 simp only[h2,JU];generalize t.getD g.ins.length default=tt at*;obtain⟨t1,t2,t3⟩:=tt;simp only[cK]at q1 q2;by_cases c3:jF ⟨t1,t2,t3⟩=false
 ·rw[if_pos (.inr ⟨trivial,c3⟩)];rw[c3]at q2;refine aq (A9 @gG.eq_1 @gC.eq_1 @bj.eq_1 @qi.eq_1 (ag e) h2 e1 @zo (A6 hmn JP c2 q1 q2 fM)) (JJ ?_);all_goals rfl
 ·rw[if_neg (by rintro(hh|⟨_,hh⟩);exact hh c2;exact c3 hh)];have c3:jF ⟨t1,t2,t3⟩=true:=by simpa using c3
  rw[c3]at q2;refine aq (A9 @gG.eq_1 @gC.eq_1 @bj.eq_1 @qi.eq_1 (ag e) h2 e1 @zo (A6 hmn JP c2 q1 q2 fM)) (JJ ?_);refine ai g.ins (λj (_:Unit)=>⟨[(2,.sl (t.map cK)),(3,.ref (bT p)),(8,.int .i64 m),(9,.int .i64 g.ins.length),(10,.int .i64 j)],[]⟩) (λj r _=>OX g.ins t=OX r (t.drop j)) () (Nat.zero_le _) CT rfl (λj x r _ d hx hd hr=> ?_) (λj _ e hr=> ?_)
  ·have dj:j<t.length:=by omega
   obtain⟨y,q1,q2⟩:=dP t dj;rw[q2,SL]at hr;have g1:=af fR hx;have g2:=af cK q1;obtain⟨nm,ty,on,ct⟩:=x;obtain⟨x1,x2,x3⟩:=ty;obtain⟨y1,y2,y3⟩:=y;dsimp only at hr;rw[<-hZ]at hr;cases hq:mT ⟨x1,x2,x3⟩ ⟨y1,y2,y3⟩;all_goals(refine aq (A8 hmn JP g1 g2 d dj hq @oO) (JJ ?_))
   all_goals first
    |exact⟨(),CT,by rw[hr,hq,Bool.true_and]⟩
    |(rw[hr,hq];exact⟨rfl,rfl⟩)
  ·have hr:OX g.ins t=true:=by rw[hr];rfl
   rw[if_pos hr];refine aq @e (JJ ?_);all_goals rfl
def yx(p:cY)(i:Int)(e:Ex):Prop:=inP p i/\kj p=0/\er e=true/\∀x∈ax e,ew x=true/\oy p i.toNat x=true
theorem yx.sub{p:cY}{i:Int}{e x:Ex}(h:yx p i e)(hx:x∈e.ar):yx p i x:=⟨h.1,h.2.1,Er h.2.2.1 hx,λy hy=>h.2.2.2 y (oC hx y hy)⟩
theorem yx.self{p:cY}{i:Int}{e:Ex}(h:yx p i e):ew e=true/\oy p i.toNat e=true:=h.2.2.2 e (iJ e)
theorem yx.ty{p:cY}{i:Int}{e:Ex}(h:yx p i e){s:List UInt8}{d:rN}(hd:eT (nodeAt p i.toNat) s=some d):inE p.en d.ty:=by obtain⟨_,_,_,_,h5,_⟩:=mz h.2.1;obtain⟨h1,h2,h3⟩:=h.1;have hm:nodeAt p i.toNat∈p.nodes:=List.mem_of_getElem? (hU (by omega));have h4:=h5 _ hm;simp only[nO,Bool.and_eq_true,List.all_eq_true,wH]at h4;exact agj (h4.1.1.1.1 d (oD hd).1).1.2
def OY:List DV->Prop×DV:=b5 gC qi λe t=>(ew e=true/\(e.kind=5\/e.kind=6\/e.kind=7\/e.kind=14\/e.kind=15\/e.kind=16)/\t.length=e.ar.length,.cy [.agg (cK (jn e t).1),.bool (jn e t).2])
theorem X3(e:Ex)(t:List Ty):OY [.agg (cA e),.sl (t.map cK)]=(ew e=true/\(e.kind=5\/e.kind=6\/e.kind=7\/e.kind=14\/e.kind=15\/e.kind=16)/\t.length=e.ar.length,.cy [.agg (cK (jn e t).1),.bool (jn e t).2]):=aO fv Nb _ e t
theorem CJ:aF Tryz.prog 156 OY:=by
 refine aF.oU (ps:=[(175,Vm),(176,OZ),(177,OT),(178,Vj),(172,Na),(179,abM)]) (hs:=[]) ⟨EE,CK,mU,Hd,vw,CI,trivial⟩ trivial EF λe t h=> ?_;try dsimp only at h
 obtain⟨h1,h2,h3⟩:=h;obtain⟨p1,p2,p3,_⟩:=dF h1;have hl:=ni h1;rcases h2 with k|k|k|k|k|k
 ·obtain⟨a,ha⟩:=p1 (.inl k);obtain⟨x,rfl⟩:∃x,t=[x]:=by rw[ha]at h3;exact List.length_eq_one_iff.1 h3
  have hz:jn e [x]=vz e.op x:=by simp[jn,k]
  have e1:=abR e.op x;rw[hz];have g0:([x].map cK).getD 0 []=cK x:=rfl;generalize vz e.op x=r at*;exact aq (A6 @eJ.eq_1 @gC.eq_1 @qi.eq_1 (ag e) k e1) zz
 ·obtain⟨a,b,ha⟩:=p2 (.inl k);obtain⟨x,y,rfl⟩:∃x y,t=[x,y]:=by rw[ha]at h3;exact X4 h3
  have hz:jn e [x,y]=dB e.op x y:=by simp[jn,k]
  have e1:=X5 e.op x y;rw[hz];have g0:([x,y].map cK).getD 0 []=cK x:=rfl;have g1:([x,y].map cK).getD 1 []=cK y:=rfl;generalize dB e.op x y=r at*;exact aq (A6 @eJ.eq_1 @gC.eq_1 @qi.eq_1 (ag e) k e1) zz
 ·obtain⟨a,b,c,ha⟩:=p3 (.inl k);obtain⟨x,y,z,rfl⟩:∃x y z,t=[x,y,z]:=by rw[ha]at h3;exact aj8 h3
  have hz:jn e [x,y,z]=(y,jF x&&mT y z):=by rw[hZ];simp[jn,k]
  have e1:=JQ x;rw[hz];have g0:([x,y,z].map cK).getD 0 []=cK x:=rfl;have g1:([x,y,z].map cK).getD 1 []=cK y:=rfl;have g2:([x,y,z].map cK).getD 2 []=cK z:=rfl;exact aq (A7 @eJ.eq_1 @gC.eq_1 @qi.eq_1 (ag e) k e1 @oO) zz
 ·obtain⟨a1,a2⟩:=(dF h1).2.2.2.2.2.1 k;have hz:jn e t=(⟨(t.getD 0 default).k,(t.getD 0 default).e,t.length⟩,Dq t&&decide ((t.getD 0 default).n=0)):=by simp[jn,k]
  have e1:=OV t;rw[eq_true (show t.length<=1000 by omega)]at e1;rw[hz];have h0:0<t.length:=by omega
  have g0:=af cK (hU h0);have h9:t.length<=8:=by omega
  generalize t.getD 0 default=x at*;refine aq (A7 @eJ.eq_1 @gC.eq_1 @qi.eq_1 (ag e) k e1 g0) (JJ (λhn=> ?_));all_goals rfl
 ·obtain⟨a,b,ha⟩:=p2 (.inr (.inr (.inr k)));obtain⟨x,y,rfl⟩:∃x y,t=[x,y]:=by rw[ha]at h3;exact X4 h3
  have hz:jn e [x,y]=(unT x,decide (0<x.n)&&qH y):=by simp[jn,k]
  have e1:=OU x;have e2:=SH y;rw[hz];have g0:([x,y].map cK).getD 0 []=cK x:=rfl;have g1:([x,y].map cK).getD 1 []=cK y:=rfl;exact aq (A7 @eJ.eq_1 @gC.eq_1 @qi.eq_1 (ag e) k e1 e2) zz
 ·obtain⟨a,b,c,ha⟩:=p3 (.inr k);obtain⟨x,y,z,rfl⟩:∃x y z,t=[x,y,z]:=by rw[ha]at h3;exact aj8 h3
  have hz:jn e [x,y,z]=(x,decide (0<x.n)&&qH y&&mT z (unT x)):=by rw[hZ];simp[jn,k]
  have e1:=OU x;have e2:=SH y;rw[hz];have g0:([x,y,z].map cK).getD 0 []=cK x:=rfl;have g1:([x,y,z].map cK).getD 1 []=cK y:=rfl;have g2:([x,y,z].map cK).getD 2 []=cK z:=rfl;exact aq (A8 @eJ.eq_1 @gC.eq_1 @qi.eq_1 (ag e) k e1 e2 @oO) zz
def Vn:List DV->Prop×DV:=Ak bj eI gC qi λp i e t=>(yx p i e/\9<=e.kind/\e.kind<=13/\t.length=e.ar.length,.cy [.agg (cK (kF p i.toNat e t).1),.bool (kF p i.toNat e t).2])
theorem abS(p:cY)(i:Int)(e:Ex)(t:List Ty):Vn [.agg (bT p),.int .i64 i,.agg (cA e),.sl (t.map cK)]=(yx p i e/\9<=e.kind/\e.kind<=13/\t.length=e.ar.length,.cy [.agg (cK (kF p i.toNat e t).1),.bool (kF p i.toNat e t).2]):=tG dp b6 fv Nb _ p i e t
theorem ajR{e:Ex}(h:ew e=true)(k:e.kind=11):∃a,e.arms=[a]:=by simp only[ew,Bool.and_eq_true,decide_eq_true_eq]at h;have agm:=h.1.1.1.2;simp only[Hj,k]at agm;simp at agm;exact List.length_eq_one_iff.1 agm.2
theorem EG:aF Tryz.prog 155 Vn:=by
 refine aF.mk4 (ps:=[(128,vt),(97,xC),(172,Na),(173,Vl),(174,M9)]) (hs:=[]) ⟨fI,cG,vw,ED,tV,trivial⟩ trivial Hk λp i e t h=> ?_;try dsimp only at h
 obtain⟨hX,k9,Cy,h3⟩:=h;obtain⟨h1,hpf⟩:=hX.self;have hP:=hX.1.1;have hE:=tR hP;have auQ:=λ(d:rN) (hd:eT (nodeAt p i.toNat) e.name=some d)=>hX.ty hd;obtain⟨n,rfl,hk,hn,hs,Rc⟩:=Ew hX.1;simp only[Int.toNat_natCast]at auQ|-;obtain⟨p1,p2,p3,p4,p5,p6,p7⟩:=dF h1;have si:(n:Int)<p.nodes.length:=by omega
 by_cases c9:e.kind=9
 ·obtain⟨a,b,ha⟩:=p2 (.inr (.inr (.inl c9)));obtain⟨x,y,rfl⟩:∃x y,t=[x,y]:=by rw[ha]at h3;exact X4 h3
  have hz:kF p n e [x,y]=(x,mT x y):=by rw[hZ];simp[kF,c9]
  rw[hz];have g0:([x,y].map cK).getD 0 []=cK x:=rfl;have g1:([x,y].map cK).getD 1 []=cK y:=rfl;exact aq (A7 @cH.eq_1 @gC.eq_1 @bj.eq_1 @qi.eq_1 (ag e) c9 @oO) zz
 by_cases SD:e.kind=10
 ·obtain⟨a,ha⟩:=p1 (.inr (.inl SD));obtain⟨x,rfl⟩:∃x,t=[x]:=by rw[ha]at h3;exact List.length_eq_one_iff.1 h3
  have hz:kF p n e [x]=(x,true):=by simp[kF,SD]
  rw[hz];have g0:([x].map cK).getD 0 []=cK x:=rfl;exact aq (A6 @cH.eq_1 @gC.eq_1 @bj.eq_1 @qi.eq_1 (ag e) SD) zz
 have e1:=nR (nodeAt p n) e.name;rw[eq_true hs]at e1;by_cases RJ:e.kind=11
 ·obtain⟨a,ha⟩:=p1 (.inr (.inr RJ));obtain⟨x,rfl⟩:∃x,t=[x]:=by rw[ha]at h3;exact List.length_eq_one_iff.1 h3
  obtain⟨m,hm⟩:=ajR h1 RJ;have g0:([x].map cK).getD 0 []=cK x:=rfl;have g1:(dI e.arms).getD 0 []=[.str m]:=by rw[hm];rfl
  have g2:(0:Int)<e.arms.length:=by rw[hm];simp
  have e2:=nh p.en m;rw[eq_true hE]at e2;have e3:my p.en m=(fA p.en m).2.2:=rfl;cases hd:eT (nodeAt p n) e.name with
  |none=>
   have hz:kF p n e [x]=(x,false):=by simp[kF,RJ,hd]
   rw[hz];rw[hd]at e1;dsimp only[Option.isSome]at e1;exact aq (A9 @cH.eq_1 @gC.eq_1 @bj.eq_1 @qi.eq_1 @aj (ag e) RJ e1 (A5 e2 hn si g1 g2)) zz
  |some d=>
   have hz:kF p n e [x]=(x,(fA p.en m).2.2&&mT (fA p.en m).1 d.ty):=by rw[hZ];simp[kF,RJ,hm,hd,e3]
   rw[hz];rw[hd]at e1;dsimp only[Option.isSome,Option.getD]at e1;generalize fA p.en m=r at*;obtain⟨⟨r1,r2,r3⟩,r4,r5⟩:=r;exact aq (A9 @cH.eq_1 @gC.eq_1 @bj.eq_1 @qi.eq_1 @aj (ag e) RJ e1 (A6 e2 hn si g1 g2 @oO)) zz
 by_cases Mv:e.kind=12
 ·obtain⟨a1,a2,a3⟩:=p4 Mv;have h0:0<t.length:=by omega
  have h9:t.length<=8:=by omega
  have g0:=af cK (hU h0);have e2:=OV t;rw[eq_true (show t.length<=1000 by omega)]at e2;cases hd:eT (nodeAt p n) e.name with
  |none=>
   have hz:kF p n e t=(t.getD 0 default,false):=by simp[kF,Mv,hd]
   rw[hz];generalize t.getD 0 default=x at*;rw[hd]at e1;dsimp only[Option.isSome]at e1;exact aq (A9 @cH.eq_1 @gC.eq_1 @bj.eq_1 @qi.eq_1 (ag e) Mv e1 hn (A2 si g0)) zz
  |some d=>
   have hz:kF p n e t=(t.getD 0 default,Dq t&&Dr p.en d.ty e.arms):=by simp[kF,Mv,hd]
   rw[hz];generalize t.getD 0 default=x at*;rw[hd]at e1;dsimp only[Option.isSome,Option.getD]at e1;have e3:=abQ p.en d.ty e.arms;rw[eq_true (show AJ p.en/\inE p.en d.ty/\e.arms.length<=1000000 from⟨hE,auQ d hd,by omega⟩)]at e3;exact aq (A9 @cH.eq_1 @gC.eq_1 @bj.eq_1 @qi.eq_1 (ag e) Mv e1 e2 (A4 e3 hn si g0)) zz
 have Vd:e.kind=13:=by omega
 obtain⟨a1,a2,a3⟩:=p5 Vd;have e2:=OQ p e t;rw[eq_true (show bx p=true/\(e.n=0\/e.n=1)/\t.length<=1000 from⟨hP,a3,by omega⟩)]at e2;simp only[ag e,Vd]at e2;cases hc:ra p e t with
 |none=>
  have hz:kF p n e t=(⟨0,0,0⟩,false):=by simp[kF,c9,SD,RJ,Mv,hc]
  rw[hz];rw[hc]at e2;dsimp only[Option.isSome,Option.getD]at e2|-;exact aq (A9 @cH.eq_1 @gC.eq_1 @bj.eq_1 @qi.eq_1 (ag e) Vd e1 e2 (A2 hn si)) zz
 |some m=>
  rw[hc]at e2;dsimp only[Option.isSome,Option.getD]at e2|-;obtain⟨q1,_⟩:=AU hc;obtain⟨g,hg⟩:=xD q1;have hmn:=af ef hg;have hz:kF p n e t=if g.outs.length=1 then((g.outs.getD 0 default).ty,true)else(⟨0,0,0⟩,false):=by simp[kF,c9,SD,RJ,Mv,hc,fa hg]
  rw[hz];have hml:=(List.getElem?_eq_some_iff.1 hg).1;have JP:(m:Int)<p.nodes.length:=by omega
  by_cases ho:g.outs.length=1
  ·obtain⟨d,hd⟩:=List.length_eq_one_iff.1 ho;have gd:(g.outs.map fR).getD 0 []=fR d:=by rw[hd];rfl
   have hd2:g.outs.getD 0 default=d:=by rw[hd];rfl
   have ey:(g.outs.length:Int)=1:=by omega
   rw[if_pos ho,hd2];exact aq (A9 @cH.eq_1 @gC.eq_1 @bj.eq_1 @qi.eq_1 (ag e) Vd e1 e2 (A6 hn si hmn JP gd ey)) zz
  ·rw[if_neg ho];have ey:¬(g.outs.length:Int)=1:=by omega
   exact aq (A9 @cH.eq_1 @gC.eq_1 @bj.eq_1 @qi.eq_1 (ag e) Vd e1 e2 (A4 hn si hmn JP)) zz
def X6(p:cY)(n:Nat)(e:Ex):Ty×Bool:=
 if e.kind=1\/e.kind=2\/e.kind=4 then(((cC p.en e).getD ([],⟨0,0,0⟩)).2,(cC p.en e).isSome)
 else if e.kind=3 then(((eT (nodeAt p n) e.name).getD default).ty,(eT (nodeAt p n) e.name).isSome)
 else if e.kind=8 then((oV p n (e.ar.getD 1 default)).getD ⟨0,0,0⟩,(cC p.en (e.ar.getD 0 default)).isSome&&((oV p n (e.ar.getD 1 default)).isSome&&mT ((cC p.en (e.ar.getD 0 default)).getD ([],⟨0,0,0⟩)).2 ((oV p n (e.ar.getD 1 default)).getD ⟨0,0,0⟩)))
 else if e.kind=17 then(⟨0,0,0⟩,false)
 else if(iu p n e).isSome then(if 9<=e.kind/\e.kind<=13 then kF p n e ((iu p n e).getD [])else jn e ((iu p n e).getD []))else(⟨0,0,0⟩,false)
theorem an4(p:cY)(n:Nat)(e:Ex)(h:e.kind=8->∃a b,e.ar=[a,b]):oV p n e=opt (X6 p n e):=by
 rw[yG];unfold X6;by_cases c1:e.kind=1\/e.kind=2\/e.kind=4
 ·rw[if_pos c1,if_pos c1];cases cC p.en e<;>rfl
 rw[if_neg c1,if_neg c1];by_cases c3:e.kind=3
 ·rw[if_pos c3,if_pos c3];cases eT (nodeAt p n) e.name<;>rfl
 rw[if_neg c3,if_neg c3];by_cases c8:e.kind=8
 ·obtain⟨a,b,hs⟩:=h c8;rw[if_pos c8,if_pos c8,hs];simp only[List.map_cons,List.getD_cons_zero,List.getD_cons_succ,hZ];cases cC p.en a<;>cases hb:oV p n b<;>simp[opt]
 rw[if_neg c8,if_neg c8];by_cases c17:e.kind=17
 ·rw[if_pos c17,if_pos c17];rfl
 rw[if_neg c17,if_neg c17];cases hs:iu p n e with
 |none=>rfl
 |some t=>
  simp only[Option.isSome_some,if_true,Option.getD_some];split
  ·exact agn p n e t
  ·exact abT e t
def zu(N:Nat):List DV->Prop×DV:=eR bj eI gC λp i e=>(yx p i e/\(ax e).length<N,.cy [.agg (cK ((oV p i.toNat e).getD ⟨0,0,0⟩)),.bool (oV p i.toNat e).isSome])
theorem OM(N:Nat)(p:cY)(i:Int)(e:Ex):zu N [.agg (bT p),.int .i64 i,.agg (cA e)]=(yx p i e/\(ax e).length<N,.cy [.agg (cK ((oV p i.toNat e).getD ⟨0,0,0⟩)),.bool (oV p i.toNat e).isSome]):=bz dp b6 fv _ p i e
def G9(N:Nat):List DV->Prop×DV:=eR bj eI gC λp i e=>(yx p i e/\(ax e).length<N+1,.cy [.sl (((iu p i.toNat e).getD []).map cK),.bool (iu p i.toNat e).isSome])
theorem OO(N:Nat)(p:cY)(i:Int)(e:Ex):G9 N [.agg (bT p),.int .i64 i,.agg (cA e)]=(yx p i e/\(ax e).length<N+1,.cy [.sl (((iu p i.toNat e).getD []).map cK),.bool (iu p i.toNat e).isSome]):=bz dp b6 fv _ p i e
def aj9(N:Nat):List DV->Prop×DV:=eR bj eI gC λp i e=>(yx p i e/\(ax e).length<N+1,.cy [.agg (cK (X6 p i.toNat e).1),.bool (X6 p i.toNat e).2])
theorem aka(N:Nat)(p:cY)(i:Int)(e:Ex):aj9 N [.agg (bT p),.int .i64 i,.agg (cA e)]=(yx p i e/\(ax e).length<N+1,.cy [.agg (cK (X6 p i.toNat e).1),.bool (X6 p i.toNat e).2]):=bz dp b6 fv _ p i e
theorem jK{e x:Ex}(h:x∈e.ar):(ax x).length<(ax e).length:=by
 have h1:=jm x;have h2:=jm e;have h3:=EB (oC h x (iJ x));have h4:=jb e;have:dT x<=fB e.ar:=by
  clear h1 h2 h3 h4;generalize e.ar=l at*;induction l with
  |nil=>simp at h
  |cons a l ih=>
   have p1:=iB l;have p2:=gH a;rw[fB];rcases List.mem_cons.1 h with rfl|h
   ·omega
   ·have:=ih h;omega
 omega
theorem ago{α:Type}{x:Option α}{r:List (Option α)}:JV (x::r)=match x with|none=>none|some y=>(JV r).map (y::·):=by cases x<;>rfl
theorem XY(N:Nat)(hO:aF Tryz.prog 99 (zu N)):aF Tryz.prog 154 (G9 N):=by
 refine aF.uR (ps:=[(99,zu N)]) (hs:=[]) ⟨hO,trivial⟩ trivial Hl λp i e h=> ?_;obtain⟨hX,hN⟩:=h;dsimp only;have hsl:=AP hX.2.2.1;have e1:∀x∈e.ar,zu N [.agg (bT p),.int .i64 i,.agg (cA x)]=(True,.cy [.agg (cK ((oV p i.toNat x).getD ⟨0,0,0⟩)),.bool (oV p i.toNat x).isSome]):=λx hx=>by rw[OM,eq_true (show yx p i x/\(ax x).length<N from⟨hX.sub hx,by have:=jK hx;omega⟩)]
 refine aq (A4 @vA.eq_1 @gC.eq_1 @bj.eq_1 (ag e)) (JJ ?_);refine ai e.ar (λk (o:List Ty)=>⟨[(1,.int .i64 i),(3,.ref (bT p)),(5,.ref (cA e)),(8,.own 0 o.length 0 o.length),(9,.int .i64 k)],[⟨.aN,3,o.map cK⟩]⟩) (λk r o=>o.length=k/\iu p i.toNat e=(JV (r.map (oV p i.toNat))).map (o++·)) [] (by decide) (CF (ag e)) ⟨rfl,?_⟩ (λk x r o d hx hd hr=> ?_) (λk o ek hr=> ?_)
 ·unfold iu;cases JV (e.ar.map (oV p i.toNat))<;>rfl
 ·obtain⟨hlen,hr⟩:=hr;rw[List.map_cons,ago]at hr;have e2:=e1 x (List.mem_of_getElem? hx);have hg:=ag x;have gx:=af cA hx;simp only[hg]at e2 gx;cases ho:oV p i.toNat x with
  |none=>
   rw[ho]at hr e2;dsimp only[Option.isSome,Option.getD,Option.map]at hr e2;rw[hr];refine aq (A4 (ag e) d gx e2) (JJ ?_);all_goals rfl
  |some t=>
   rw[ho]at hr e2;dsimp only[Option.isSome,Option.getD]at hr e2;refine aq (A4 (ag e) d gx e2) (JJ ?_);all_goals first
    |exact⟨o++[t],(CF @List.map_append.{0,0}),by simp[hlen],by rw[hr];cases JV (r.map (oV p i.toNat))<;>simp⟩
 ·obtain⟨hlen,hr⟩:=hr;have hr:iu p i.toNat e=some o:=by rw[hr];simp[JV]
  rw[hr];have XC:(o.map cK).take e.ar.length=o.map cK:=List.take_of_length_le (by simp;omega);refine aq (A4 (ag e) ek XC hlen) (JJ ?_);all_goals rfl
theorem arA(N:Nat)(hO:aF Tryz.prog 99 (zu N)):aF Tryz.prog 134 (aj9 N):=by
 refine aF.uR (ps:=[(151,G3),(128,vt),(99,zu N),(154,G9 N),(155,Vn),(156,OY)]) (hs:=[]) ⟨sr,fI,hO,XY N hO,EG,CJ,trivial⟩ trivial MA λp i e h=> ?_;obtain⟨hX,hN⟩:=h;dsimp only;have hE:=tR hX.1.1;have hso:=hX.self.1;have zS:=hX.2.2.1;obtain⟨p1,p2,p3,p4,p5,p6,p7⟩:=dF hso;have hl:=ni hso;have e1:=AH p.en e;rw[eq_true (show AJ p.en/\er e=true from⟨hE,zS⟩)]at e1;have e4:=OO N p i e;rw[eq_true (show yx p i e/\(ax e).length<N+1 from⟨hX,hN⟩)]at e4;have hlen:∀t,iu p i.toNat e=some t->t.length=e.ar.length:=λt ht=>(yF ht).1;have e5:=λt=>abS p i e t;have e6:=λt=>X3 e t;have hXX:=hX;have e2:∀x∈e.ar,zu N [.agg (bT p),.int .i64 i,.agg (cA x)]=(True,.cy [.agg (cK ((oV p i.toNat x).getD ⟨0,0,0⟩)),.bool (oV p i.toNat x).isSome]):=λx hx=>by rw[OM,eq_true (show yx p i x/\(ax x).length<N from⟨hX.sub hx,by have:=jK hx;omega⟩)]
 obtain⟨n,rfl,hk,hn,hs,Rc⟩:=Ew hX.1;simp only[Int.toNat_natCast]at*;have si:(n:Int)<p.nodes.length:=by omega
 have e3:=nR (nodeAt p n) e.name;rw[eq_true hs]at e3;simp only[ag e]at e1 e4 e5 e6;by_cases c1:e.kind=1\/e.kind=2\/e.kind=4
 ·have hz:X6 p n e=(((cC p.en e).getD ([],⟨0,0,0⟩)).2,(cC p.en e).isSome):=by unfold X6;rw[if_pos c1]
  rw[hz];generalize (cC p.en e).getD ([],⟨0,0,0⟩)=r at*;obtain⟨r1,r2,r3,r4⟩:=r;rcases c1 with c1|c1|c1<;>rw[c1]at e1<;>(exact aq (A6 @eC.eq_1 @gC.eq_1 @bj.eq_1 (ag e) c1 e1) zz);all_goals rfl
 by_cases c3:e.kind=3
 ·have hz:X6 p n e=(((eT (nodeAt p n) e.name).getD default).ty,(eT (nodeAt p n) e.name).isSome):=by unfold X6;rw[if_neg c1,if_pos c3]
  rw[hz];exact aq (A8 @eC.eq_1 @gC.eq_1 @bj.eq_1 (ag e) c3 e3 hn si) zz;all_goals rfl
 have d1:¬e.kind=1:=λhh=>c1 (.inl hh);have d2:¬e.kind=2:=λhh=>c1 (.inr (.inl hh));have d4:¬e.kind=4:=λhh=>c1 (.inr (.inr hh));by_cases c8:e.kind=8
 ·obtain⟨a,b,hs⟩:=p2 (.inr (.inl c8));have hma:a∈e.ar:=by rw[hs];simp
  have hmb:b∈e.ar:=by rw[hs];simp
  have ea:=AH p.en a;rw[eq_true (show AJ p.en/\er a=true from⟨hE,Er zS hma⟩)]at ea;have eb:=e2 b hmb;have ga:(e.ar.map cA).getD 0 []=cA a:=by rw[hs];rfl
  have gb:(e.ar.map cA).getD 1 []=cA b:=by rw[hs];rfl
  have l0:(0:Int)<e.ar.length:=by rw[hs];simp
  have l1:(1:Int)<e.ar.length:=by rw[hs];simp
  have hz:X6 p n e=((oV p n b).getD ⟨0,0,0⟩,(cC p.en a).isSome&&((oV p n b).isSome&&mT ((cC p.en a).getD ([],⟨0,0,0⟩)).2 ((oV p n b).getD ⟨0,0,0⟩))):=by unfold X6;rw[if_neg c1,if_neg c3,if_pos c8,hs];rfl
  rw[hz];simp only[ag a]at ea ga;simp only[ag b]at eb gb;generalize (cC p.en a).isSome=b1 at*;generalize (cC p.en a).getD ([],⟨0,0,0⟩)=r at*;generalize (oV p n b).isSome=b2 at*;generalize (oV p n b).getD ⟨0,0,0⟩=u at*;obtain⟨r1,r2,r3,r4⟩:=r;obtain⟨u1,u2,u3⟩:=u;exact aq (A9 @eC.eq_1 @gC.eq_1 @bj.eq_1 (ag e) c8 ea eb ga (A4 gb @l0 l1 @oO)) zz;all_goals rfl
 by_cases c17:e.kind=17
 ·have hz:X6 p n e=(⟨0,0,0⟩,false):=by unfold X6;rw[if_neg c1,if_neg c3,if_neg c8,if_pos c17]
  rw[hz];exact aq (A5 @eC.eq_1 @gC.eq_1 @bj.eq_1 (ag e) c17) zz;all_goals rfl
 have hz:X6 p n e=if(iu p n e).isSome then(if 9<=e.kind/\e.kind<=13 then kF p n e ((iu p n e).getD [])else jn e ((iu p n e).getD []))else(⟨0,0,0⟩,false):=by unfold X6;rw[if_neg c1,if_neg c3,if_neg c8,if_neg c17]
 rw[hz];cases arB:iu p n e with
 |none=>
  rw[arB]at e4;dsimp only[Option.isSome,Option.getD]at e4;refine aq (A5 @eC.eq_1 @gC.eq_1 @bj.eq_1 (ag e) e4) (JJ (λhn hn hn hn hn hn=> ?_));all_goals rfl
 |some t=>
  rw[arB]at e4;dsimp only[Option.isSome,Option.getD]at e4|-;have htl:=hlen t arB;rw[if_pos rfl];by_cases c:9<=e.kind/\e.kind<=13
  ·rw[if_pos c];obtain⟨ca,cb⟩:=c;have e5:=e5 t;rw[eq_true (show yx p n e/\9<=e.kind/\e.kind<=13/\t.length=e.ar.length from⟨hXX,ca,cb,htl⟩)]at e5;generalize kF p n e t=r at*;obtain⟨⟨r1,r2,r3⟩,r4⟩:=r;exact aq (A8 @eC.eq_1 @gC.eq_1 @bj.eq_1 (ag e) e4 e5 ca cb) zz;all_goals rfl
  ·rw[if_neg c];have e6:=e6 t;rw[eq_true (show ew e=true/\(e.kind=5\/e.kind=6\/e.kind=7\/e.kind=14\/e.kind=15\/e.kind=16)/\t.length=e.ar.length from⟨hso,by omega,htl⟩)]at e6;generalize jn e t=r at*;obtain⟨⟨r1,r2,r3⟩,r4⟩:=r;by_cases ca:9<=e.kind
   ·have cb:¬e.kind<=13:=λhh=>c ⟨ca,hh⟩;exact aq (A8 @eC.eq_1 @gC.eq_1 @bj.eq_1 (ag e) e4 e6 ca cb) zz;all_goals rfl
   ·exact aq (A7 @eC.eq_1 @gC.eq_1 @bj.eq_1 (ag e) e4 e6 ca) zz;all_goals rfl
theorem Oz:∀N,aF Tryz.prog 99 (zu N)
 |0=>aF.uR (ps:=[]) (hs:=[]) trivial trivial zx λp i e h=>absurd h.2 (Nat.not_lt_zero _)
 |N+1=>by
  refine aF.uR (ps:=[(134,aj9 N)]) (hs:=[]) ⟨arA N (Oz N),trivial⟩ trivial zx λp i e h=> ?_;obtain⟨hX,hN⟩:=h;dsimp only;have e1:=aka N p i e;rw[eq_true (show yx p i e/\(ax e).length<N+1 from⟨hX,hN⟩)]at e1;have h8:=λhh=>(dF hX.self.1).2.1 (.inr (.inl hh));rw[an4 p i.toNat e h8];obtain⟨n,rfl,hk,hn,hs,Rc⟩:=Ew hX.1;simp only[Int.toNat_natCast]at*;have h0:¬(n:Int)<0:=by omega
  have h1:¬(n:Int)≥p.nodes.length:=by omega
  have h1':¬(p.nodes.length:Int)<=n:=by omega
  have aCR:¬p.nodes.length<=n:=by omega
  simp only[ag e]at e1;generalize X6 p n e=r at*;obtain⟨⟨r1,r2,r3⟩,r4⟩:=r;cases r4;all_goals(refine aq (A7 @zy.eq_1 @gC.eq_1 @bj.eq_1 (ag e) e1 h0 h1') (JJ ?_))
  all_goals rfl
end
end Go.Proofs.YtcokmopocppmiaaGreat

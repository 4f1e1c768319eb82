/- Expressions: what they are at the data level; how great they are. -/
import Derived.Test.YtcokmopocppmiaaGreatTyI
set_option linter.all false
set_option maxRecDepth 20000
namespace Go.Proofs.YtcokmopocppmiaaGreat
open Go.Nk
inductive Ex where
 |mk (kind n:Int) (name:List UInt8) (op:Int) (arms:List (List UInt8)) (ar:List Ex)
namespace Ex
def kind:Ex->Int|mk k _ _ _ _ _=>k
def n:Ex->Int|mk _ n _ _ _ _=>n
def name:Ex->List UInt8|mk _ _ s _ _ _=>s
def op:Ex->Int|mk _ _ _ o _ _=>o
def arms:Ex->List (List UInt8)|mk _ _ _ _ a _=>a
def ar:Ex->List Ex|mk _ _ _ _ _ l=>l
end Ex
instance:Inhabited Ex:=⟨.mk 0 0 [] 0 [] []⟩
mutual
def cA:Ex->List DV
 | .mk k n s o a l=>[.int .i64 k,.int .i64 n,.str s,.int .i64 o,.sl (dI a),.sl (aod l)]
def aod:List Ex->List (List DV)
 |[]=>[]
 |x::l=>cA x::aod l
end
theorem Ym:∀l:List Ex,aod l=l.map cA
 |[]=>rfl
 |x::l=>by rw[aod,Ym l];rfl
theorem ag:∀e:Ex,cA e=[.int .i64 e.kind,.int .i64 e.n,.str e.name,.int .i64 e.op,.sl (dI e.arms),.sl (e.ar.map cA)]
 | .mk k n s o a l=>by rw[cA,Ym];rfl
theorem Ex.ind{C:Ex->Prop}(h:∀e,(∀x∈e.ar,C x)->C e)(e:Ex):C e:=
 @Ex.rec C (λl=>∀x∈l,C x) (λ_ _ _ _ _ _ ih=>h _ ih) (λx hx=>by simp at hx) (λy l hy hl x hx=>by
  rcases List.mem_cons.1 hx with e|hx
  ·rw[e];exact hy
  ·exact hl x hx) e
theorem yz:∀x y,cA x=cA y->x=y:=by
 intro x;induction x using Ex.ind with
 |h e ih=>
  intro y h;rw[ag,ag]at h;simp only[List.cons.injEq,DV.int.injEq,DV.str.injEq,DV.sl.injEq,true_and,and_true]at h;obtain⟨h1,h2,h3,h4,h5,h6⟩:=h;have q5:=BR h5;clear h5;have key:∀(l m:List Ex),(∀x∈l,∀y,cA x=cA y->x=y)->l.map cA=m.map cA->l=m:=by
   intro l;induction l with
   |nil=>intro m _ h;cases m with
    |nil=>rfl
    |cons=>simp at h
   |cons a l il=>intro m hl h;cases m with
    |nil=>simp at h
    |cons b m=>
     simp only[List.map_cons,List.cons.injEq]at h;rw[hl a (by simp) b h.1,il m (λx hx=>hl x (by simp[hx])) h.2]
  have q6:=key _ _ ih h6;clear h6;obtain⟨k,n,s,o,a,l⟩:=e;obtain⟨k',n',s',o',a',l'⟩:=y;simp only[Ex.kind,Ex.n,Ex.name,Ex.op,Ex.arms,Ex.ar]at h1 h2 h3 h4 q5 q6;subst h1 h2 h3 h4 q5 q6;rfl
abbrev gC:Ex->DV:=eA cA
theorem fv:rJ gC:=zq yz
abbrev arO:List Ex->DV:=eL cA
theorem aoe:rJ arO:=Al yz
theorem arP(e):(cA e).length=6:=by rw[ag];rfl
theorem akn{es}{x}(h:x∈es):ta x<=Yn es:=by
 induction es with
 |nil=>simp at h
 |cons e es ih=>
  simp only[Yn];rcases List.mem_cons.1 h with rfl|h
  ·omega
  ·have:=ih h;omega
theorem VA{e x:Ex}(h:x∈e.ar):ta (cA x)<ta (cA e):=by have:=akn (List.mem_map.2 ⟨x,h,rfl⟩:cA x∈e.ar.map cA);rw[ag e];simp only[ta,DV.sz];omega
mutual
def dT:Ex->Int
 | .mk _ _ _ _ _ l=>1+fB l
def fB:List Ex->Int
 |[]=>0
 |x::l=>dT x+fB l
end
theorem jb:∀e:Ex,dT e=1+fB e.ar
 | .mk .. =>by rw[dT];rfl
theorem gH(e:Ex):1<=dT e/\0<=fB e.ar:=by
 induction e using Ex.ind with
 |h e ih=>
  have key:∀l:List Ex,(∀x∈l,1<=dT x)->0<=fB l:=by
   intro l;induction l with
   |nil=>intro _;rw[fB];omega
   |cons x l il=>intro h;rw[fB];have:=h x (by simp);have:=il λy hy=>h y (by simp[hy]);omega
  have:=key e.ar λx hx=>(ih x hx).1;rw[jb];omega
theorem iB(l:List Ex):(l.length:Int)<=fB l:=by
 induction l with
 |nil=>rw[fB];simp
 |cons x l ih=>rw[fB];have:=gH x;simp;omega
noncomputable def Pj:List DV->Prop×DV:=bB gC λe=>(dT e<=1000000000,.int .i64 (dT e))
def SS(e):=show Pj [.agg (cA e)]=_ from aH fv _ e
theorem E6:aF Tryz.prog 187 Pj:=by
 refine aF.rec λN ih=> ?_;unfold Pj;rw[Ki];refine aF.mo (ps:=[(187,lim N Pj)]) (hs:=[]) ⟨ih,trivial⟩ trivial HG λe h=> ?_;try dsimp only at h
 obtain⟨h1,h2⟩:=h;have hq:=jb e;have hp:=gH e;have hl:=iB e.ar;refine aq (A3 @vL.eq_1 @gC.eq_1 (ag e)) (JJ ?_);refine ai e.ar (λk (n:Int)=>⟨[(1,.ref (cA e)),(3,.int .i64 n),(4,.int .i64 k)],[]⟩) (λk r n=>n+fB r=dT e/\1<=n) 1 (Nat.zero_le _) (CF (ag e)) ⟨by omega,Int.le_refl _⟩ (λk x r n d hx hd hr=> ?_) (λk n e2 hr=> ?_)
 ·obtain⟨g1,g2⟩:=hr;rw[fB]at g1;have hpx:=gH x;have hpr:=iB r;have hs:ta [DV.agg (cA x)]<N:=by have:=VA (List.mem_of_getElem? hx);simp only[ta,DV.sz]at h2|-;omega
  have hx1:dT x<=1000000000:=by omega
  have w1:IntKind.i64.wrap (n+dT x)=n+dT x:=ig (by omega);have e1:=SS x;rw[eq_true hx1]at e1;simp only[ag x]at e1 hs;refine aq (A8 @VB (ag e) d (af cA hx) (ag x) e1 hs w1) (JJ ?_);exact⟨n+dT x,CT,by omega,by omega⟩
 ·obtain⟨g1,_⟩:=hr;rw[fB]at g1;exact aq (A2 (ag e) e2) zz;all_goals omega
mutual
def mX:Ex->Int
 | .mk _ _ _ _ _ l=>mb l+1
def mb:List Ex->Int
 |[]=>0
 |x::l=>max (mX x) (mb l)
end
theorem Kj:∀e:Ex,mX e=mb e.ar+1
 | .mk .. =>by rw[mX];rfl
theorem Pm(e):1<=mX e/\mX e<=dT e:=by
 induction e using Ex.ind with
 |h e ih=>
  have key:∀l:List Ex,(∀x∈l,1<=mX x/\mX x<=dT x)->0<=mb l/\mb l<=fB l:=by
   intro l;induction l with
   |nil=>intro _;rw[mb,fB];omega
   |cons x l il=>intro h;rw[mb,fB];have:=h x (by simp);have:=il λy hy=>h y (by simp[hy]);omega
  have:=key e.ar ih;rw[Kj,jb];omega
theorem akp(l):0<=mb l/\mb l<=fB l:=by
 induction l with
 |nil=>rw[mb,fB];omega
 |cons x l ih=>rw[mb,fB];have:=Pm x;omega
noncomputable def HF:List DV->Prop×DV:=bB gC λe=>(dT e<=1000000000,.int .i64 (mX e))
def Pk(e):=show HF [.agg (cA e)]=_ from aH fv _ e
theorem CY:aF Tryz.prog 188 HF:=by
 refine aF.rec λN ih=> ?_;unfold HF;rw[Ki];refine aF.mo (ps:=[(188,lim N HF)]) (hs:=[]) ⟨ih,trivial⟩ trivial E8 λe h=> ?_;try dsimp only at h
 obtain⟨h1,h2⟩:=h;have hq:=jb e;have Ev:=Kj e;have hp:=gH e;have hl:=iB e.ar;have hb:=akp e.ar;refine aq (A3 @uh.eq_1 @gC.eq_1 (ag e)) (JJ ?_);refine ai e.ar (λk (n:Int)=>⟨[(1,.ref (cA e)),(3,.int .i64 n),(4,.int .i64 k)],[]⟩) (λk r n=>max n (mb r)=mb e.ar/\0<=n/\fB r<=fB e.ar) 0 (Nat.zero_le _) (CF (ag e)) ⟨by omega,Int.le_refl _,Int.le_refl _⟩ (λk x r n d hx hd hr=> ?_) (λk n e2 hr=> ?_)
 ·obtain⟨g1,g2,g3⟩:=hr;rw[mb]at g1;rw[fB]at g3;have hpx:=gH x;have hpr:=iB r;have hs:ta [DV.agg (cA x)]<N:=by have:=VA (List.mem_of_getElem? hx);simp only[ta,DV.sz]at h2|-;omega
  have e1:=Pk x;rw[eq_true (show dT x<=1000000000 by omega)]at e1;simp only[ag x]at e1 hs;refine aq (A7 @VB (ag e) d (af cA hx) (ag x) e1 hs) (JJ ?_);exact⟨max n (mX x),CT,by omega,by omega,by omega⟩
 ·obtain⟨g1,g2,_⟩:=hr;rw[mb]at g1;exact aq (A2 (ag e) e2) zz;all_goals omega
noncomputable def Hz:List DV->Prop×DV:=b5 gC eI λe l=>(-1000000000<=l/\l<=1000000000,.int .i64 (max 0 (l-dT e)))
def Ph(e)(l):=show Hz [.agg (cA e),.int .i64 l]=_ from aO fv b6 _ e l
theorem CW:aF Tryz.prog 64 Hz:=by
 refine aF.rec λN ih=> ?_;unfold Hz;rw[agA];refine aF.oU (ps:=[(64,lim N Hz)]) (hs:=[]) ⟨ih,trivial⟩ trivial E9 λe l h=> ?_;try dsimp only at h
 obtain⟨⟨h0,h1⟩,h2⟩:=h;have hq:=jb e;have hp:=gH e;by_cases c:l<=0
 ·exact aq (A4 @nY.eq_1 @gC.eq_1 (ag e) c) zz;all_goals omega
 refine aq (A4 @nY.eq_1 @gC.eq_1 (ag e) c) (JJ ?_);refine ai e.ar (λk (n:Int)=>⟨[(1,.int .i64 n),(2,.ref (cA e)),(5,.int .i64 k)],[]⟩) (λk r n=>max 0 (n-fB r)=max 0 (l-dT e)/\0<=n/\n<=max 0 (l-1-k)/\k<=l) (l-1) (Nat.zero_le _) (CF (ag e)) ⟨by omega,by omega,by omega,by omega⟩ (λk x r n d hx hd hr=> ?_) (λk n e2 hr=> ?_)
 ·obtain⟨g1,g2,g3,g4⟩:=hr;rw[fB]at g1;have hpx:=gH x;have hpr:=iB r;by_cases c2:n<=0
  ·have c3:decide (n>0)=false:=decide_eq_false (by omega);have c4:decide (0<n)=false:=decide_eq_false (by omega);exact aq (A3 (ag e) d c3) zz;all_goals omega
  have c3:decide (n>0)=true:=decide_eq_true (by omega);have c4:decide (0<n)=true:=decide_eq_true (by omega);have hs:ta [DV.agg (cA x),DV.int .i64 n]<N:=by have:=VA (List.mem_of_getElem? hx);simp only[ta,DV.sz]at h2|-;omega
  have e1:=Ph x n;rw[eq_true (show-1000000000<=n/\n<=1000000000 by omega)]at e1;simp only[ag x]at e1 hs;refine aq (A8 @VB (ag e) d (af cA hx) (ag x) e1 hs c3) (JJ ?_);exact⟨max 0 (n-dT x),CT,by omega,by omega,by omega,by omega⟩
 ·obtain⟨g1,g2,_⟩:=hr;rw[fB]at g1;exact aq (A2 (ag e) e2) zz;all_goals omega
mutual
def ax:Ex->List Ex
 | .mk k n s o a l=> .mk k n s o a l::bC l
def bC:List Ex->List Ex
 |[]=>[]
 |x::l=>ax x++bC l
end
theorem iA:∀e:Ex,ax e=e::bC e.ar
 | .mk .. =>by rw[ax];rfl
theorem jm(e):((ax e).length:Int)=dT e:=by
 induction e using Ex.ind with
 |h e ih=>
  have key:∀l:List Ex,(∀x∈l,((ax x).length:Int)=dT x)->((bC l).length:Int)=fB l:=by
   intro l;induction l with
   |nil=>intro _;rw[bC,fB];rfl
   |cons x l il=>intro h;rw[bC,fB];have:=h x (by simp);have:=il λy hy=>h y (by simp[hy]);simp;omega
  have:=key e.ar ih;rw[iA,jb];simp;omega
noncomputable def yK:List DV->Prop×DV:=bB gC λe=>(dT e<=1000000000,.sl ((ax e).map cA))
def yL(e):=show yK [.agg (cA e)]=_ from aH fv _ e
theorem mW:aF Tryz.prog 92 yK:=by
 refine aF.rec λN ih=> ?_;unfold yK;rw[Ki];refine aF.mo (ps:=[(92,lim N yK)]) (hs:=[]) ⟨ih,trivial⟩ trivial Fa λe h=> ?_;try dsimp only at h
 obtain⟨h1,h2⟩:=h;have hq:=jb e;have hp:=gH e;have hl:=iB e.ar;have RH:=jm e;have hz:∀l:List Ex,∀r∈l.map cA,r.length=6:=λl r hr=>by obtain⟨x,_,rfl⟩:=List.mem_map.1 hr;exact arP x
 refine aq (A3 @ui.eq_1 @gC.eq_1 (ag e)) (JJ ?_);refine ai e.ar (λk (o:List Ex)=>⟨[(1,.ref (cA e)),(3,.own 0 o.length 0 o.length),(4,.int .i64 k)],[⟨.aN,6,o.map cA⟩]⟩) (λk r o=>o++bC r=ax e) [e] (Nat.zero_le _) (CF (ag e)) (by rw[iA];rfl) (λk x r o d hx hd hr=> ?_) (λk o e2 hr=> ?_)
 ·rw[bC]at hr;have ho:=congrArg List.length hr;simp only[List.length_append]at ho;have hpx:=gH x;have aC0:=jm x;have hs:ta [DV.agg (cA x)]<N:=by have:=VA (List.mem_of_getElem? hx);simp only[ta,DV.sz]at h2|-;omega
  have e1:=yL x;rw[eq_true (show dT x<=1000000000 by omega)]at e1;have hzx:=eq_true (hz (ax x));have lb:o.length+(ax x).length<=4294967296:=by omega
  simp only[ag x]at e1 hs;refine aq (A9 @VB (ag e) d (af cA hx) (ag x) e1 hs hzx lb) (JJ ?_);exact⟨o++ax x,(CF @List.map_append.{0,0}),by simpa using hr⟩
 ·rw[bC,List.append_nil]at hr;subst hr;refine aq (A2 (ag e) e2) (JJ ?_);exact congrArg DV.sl (List.take_of_length_le (by simp))
end Go.Proofs.YtcokmopocppmiaaGreat

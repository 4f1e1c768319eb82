/- Right expressions, by the document. -/
import Derived.Test.YtldnkkkooabaeaaGreatExA
import Derived.Test.YtldnkkkooabaeaaGreatPaF
set_option linter.all false
set_option maxRecDepth 20000
namespace Go.Proofs.YtldnkkkooabaeaaGreat
noncomputable section
open Go.Nk
def Bx(e:Ex):Bool:=decide (e.name.length<=200)&&decide (e.arms.length<=20)&&e.arms.all λa=>decide (a.length<=100)
def Z_:Ab->Prop×J:=bJ gX λe=>(dt e<=1000000000,.bool ((az e).all Bx))
theorem akF(e:Ex):Z_ [.agg (cO e)]=(dt e<=1000000000,.bool ((az e).all Bx)):=aI gC _ e
theorem aId:aJ Tryz.prog 72 Z_:=by
 refine aJ.mS (ps:=[(99,Ar)]) (I:=[]) ⟨oy,BB⟩ trivial aEW λe h=>?_;try dsimp only at h
 have h:dt e<=1000000000:=h;have PJ:=kf e;have Y:=As e;rw[lU h]at Y;generalize az e=l at*;simp only[ai e]at Y;refine ao (fj @atO.eq_1 @gX.eq_1 (ai e) Y) (JJ ?_);refine aj l (λk (_:Unit)=>⟨[(3,.sl (l.map cO)),(4,.int .i64 k)],[]⟩) (λk r _=>r.all Bx=l.all Bx) () (AI _) CT rfl (λk x r _ d U Z E=>?_) (λk _ e2 E=>?_)
 .rw[MM]at E;by_cases c1:200<x.name.length
  .have hf:Bx x=false:=by simp[Bx];omega
   have WH:(200:Int)<x.name.length:=by omega
   have hb:l.all Bx=false:=by simp_all
   exact ao (fF d (ag cO U) (ai x) WH hb) zz
  by_cases c2:20<x.arms.length
  .have hf:Bx x=false:=by simp[Bx];omega
   have WH:¬(200:Int)<x.name.length:=by omega
   have HR:(20:Int)<x.arms.length:=by omega
   have hb:l.all Bx=false:=by simp_all
   exact ao (rO @ak d (ag cO U) (ai x) WH HR hb) zz
  have WH:¬(200:Int)<x.name.length:=by omega
  have HR:¬(20:Int)<x.arms.length:=by omega
  have hf:Bx x=x.arms.all λa=>decide (a.length<=100):=by simp_all[Bx]
  refine ao (jg @ak d (ag cO U) (ai x) WH HR) (JJ ?_);refine aj x.arms (λj (_:Unit)=>⟨[(3,.sl (l.map cO)),(4,.int .i64 k),(5,.int .i64 j)],[]⟩) (λj q _=>(q.all λa=>decide (a.length<=100))=x.arms.all λa=>decide (a.length<=100)) () (AI _) CT rfl (λj y q _ d2 hy Ek hq=>?_) (λj _ e3 hq=>?_)
  .rw[MM]at hq;have T7:=fN hy;by_cases c3:100<y.length
   .have GD:(100:Int)<y.length:=by omega
    have aAw:decide (y.length<=100)=false:=Z7 (by omega);have hb:l.all Bx=false:=by grind
    exact ao (tM @ak d d2 (ag cO U) (ai x) T7 GD hb) zz
   .have GD:¬(100:Int)<y.length:=by omega
    have aAw:decide (y.length<=100)=true:=ON (by omega);rw[aAw,Pd]at hq;refine ao (rO @ak d d2 (ag cO U) (ai x) T7 GD) (JJ ?_);exact⟨(),CT,hq⟩
  .rw[C1]at hq;have hb:r.all Bx=l.all Bx:=by grind
   refine ao (fF @ak d e3 (ag cO U) (ai x)) (JJ ?_);exact⟨(),CT,hb⟩
 .rw[C1]at E;rw[<-E];exact ao @e2 zz
def eG(e:Ex):Bool:=decide (dt e<200)&&(az e).all Bx
def Sn:Ab->Prop×J:=bJ gX λe=>(True,.bool (eG e))
theorem abO(e:Ex):Sn [.agg (cO e)]=(True,.bool (eG e)):=aI gC _ e
theorem aIe:aJ Tryz.prog 44 Sn:=by
 refine aJ.mS (ps:=[(71,JX),(72,Z_)]) (I:=[]) ⟨aH4,aId,BB⟩ trivial aEG λe h=>?_;try dsimp only at h
 have Y:=ayL e 200;have e2:=akF e;by_cases c:dt e<200
 .have hm:max 0 (200-dt e)=200-dt e:=by omega
  have c1:decide (200-dt e>0)=true:=ON (by omega);have c2:decide (0<200-dt e)=true:=ON (by omega);have E:eG e=(az e).all Bx:=by simp[eG,c]
  rw[lU (show-1000000000<=(200:Int)/\(200:Int)<=1000000000 by omega),hm]at Y;rw[lU (show dt e<=1000000000 by omega)]at e2;rw[E];simp only[ai e]at Y e2;exact ao (jg @pG.eq_1 @gX.eq_1 (ai e) Y e2 c1) zz
 .have hm:max 0 (200-dt e)=0:=by omega
  have E:eG e=false:=by simp[eG,c]
  rw[lU (show-1000000000<=(200:Int)/\(200:Int)<=1000000000 by omega),hm]at Y;rw[E];simp only[ai e]at Y;exact ao (fj @pG.eq_1 @gX.eq_1 (ai e) Y) zz
def kO(e:Ex):Bool:=
 decide ((if e.kind=5 then 1 else if e.kind=6 then 3 else 0)<=e.op)&&decide (e.op<=(if e.kind=5 then 2 else if e.kind=6 then 16 else 0))&&
 (if e.kind=1 then decide (0<=e.n)else if e.kind=2\/e.kind=13 then e.n==0||e.n==1 else e.n==0)
def Mu:Ab->Prop×J:=bJ gX λe=>(True,.bool (kO e))
theorem aIf(e:Ex):Mu [.agg (cO e)]=(True,.bool (kO e)):=aI gC _ e
theorem aIg:aJ Tryz.prog 203 Mu:=by refine aJ.mS (ps:=[]) (I:=[]) trivial trivial aHH λe _=>?_;refine ao (cL @awD.eq_1 @gX.eq_1 (ai e)) (ey ?_ ?_ ?_ ?_ ?_ ?_ ?_ ?_ (jg ?_ ?_ ?_ ?_ ?_ (JJ ?_)))<;>intros;all_goals(obtain⟨kind,n,name,op,arms,ar⟩:=e;simp only[Ex.kind,Ex.n,Ex.op]at*;grind[kO,Ex.kind,Ex.n,Ex.op])
def G3(e:Ex):Bool:=
 if e.kind=3\/e.kind=11\/e.kind=12\/e.kind=13 then qk e.name else if e.kind=4 then Fe e.name else if e.kind=17 then u7 e.name else e.name==[]
def YP:Ab->Prop×J:=bJ gX λe=>(e.name.length<=1000000,.bool (G3 e))
theorem af0(e:Ex):YP [.agg (cO e)]=(e.name.length<=1000000,.bool (G3 e)):=aI gC _ e
theorem aIh:aJ Tryz.prog 204 YP:=by
 refine aJ.mS (ps:=[(207,NY),(208,Mf),(213,X_)]) (I:=[]) ⟨iA,lI,aIb,BB⟩ trivial aHJ λe h=>?_;try dsimp only at h
 have h:e.name.length<=1000000:=h;refine ao (jg @awK.eq_1 @tC @Du @akG @gX.eq_1 (ai e)) (rO ?_ ?_ ?_ ?_ ?_ ?_ (JJ ?_))<;>intros<;>simp_all[Ex.kind,Ex.name,G3]
def Sg(s:B3):Bool:=Fe s||s==[116,114,117,101]||s==[102,97,108,115,101]
def _0:Ab->Prop×J:=bJ eS λs=>(True,.bool (Sg s))
theorem ayQ(s:B3):_0 [.str s]=(True,.bool (Sg s)):=aI kj _ s
theorem aIi:aJ Tryz.prog 214 _0:=by refine aJ.mS (ps:=[(208,Mf)]) (I:=[]) ⟨lI,BB⟩ trivial aHT λs _=>?_;refine ao (bV @axg.eq_1 @Du) (cL ?_ ?_ (JJ ?_))<;>intros;all_goals grind[Sg]
def E8(e:Ex):Bool:=e.arms.all Sg&&(if e.kind=11 then e.arms.length==1 else if e.kind=12 then decide (1<=e.arms.length)&&decide (e.arms.length<=6)&&rW e.arms else e.arms.length==0)
def _3:Ab->Prop×J:=bJ gX λe=>(e.arms.length<=1000000,.bool (E8 e))
theorem akH(e:Ex):_3 [.agg (cO e)]=(e.arms.length<=1000000,.bool (E8 e)):=aI gC _ e
theorem aIj:aJ Tryz.prog 205 _3:=by
 refine aJ.mS (ps:=[(214,_0),(197,Sl)]) (I:=[]) ⟨aIi,pE,BB⟩ trivial aHK λe h=>?_;try dsimp only at h
 have h:e.arms.length<=1000000:=h;have Y:=Dv e.arms;rw[lU (show e.arms.length<=1000000000 by omega)]at Y;refine ao (cL @awP.eq_1 @gX.eq_1 (ai e)) (JJ ?_);refine aj e.arms (λk (_:Unit)=>⟨[(1,.ref (cO e)),(3,.int .i64 k)],[]⟩) (λk r _=>r.all Sg=e.arms.all Sg) () (AI _) (CF (ai e)) rfl (λk x r _ d U Z E=>?_) (λk _ e2 E=>?_)
 .rw[MM]at E;cases hf:Sg x
  .rw[hf,C4]at E;have hq:E8 e=false:=by rw[E8,<-E,C4]
   rw[hq];exact ao (jg @ayQ @ak (ai e) d (fN U) hf) zz
  .rw[hf,Pd]at E;refine ao (jg @ayQ @ak (ai e) d (fN U) hf) (JJ ?_);exact⟨(),CT,E⟩
 .rw[C1]at E;refine ao (fj @ak (ai e) e2 Y) (fF ?_ ?_ ?_ ?_ (JJ ?_))<;>intros;all_goals(obtain⟨kind,n,name,op,arms,ar⟩:=e;simp only[Ex.kind,Ex.arms]at*;grind[E8,Ex.kind,Ex.arms])
def qN(e:Ex):Int×Int:=
 if e.kind=5\/e.kind=10\/e.kind=11 then(1,1)else if e.kind=6\/e.kind=8\/e.kind=9\/e.kind=15 then(2,2)else if e.kind=7\/e.kind=16 then(3,3)
 else if e.kind=12 then(e.arms.length,e.arms.length)else if e.kind=13 then(e.n,6+e.n)else if e.kind=14 then(1,8)else(0,0)
def _4:Ab->Prop×J:=bJ gX λe=>(e.kind=13->0<=e.n/\e.n<=1,.b9 [.int .i64 (qN e).1,.int .i64 (qN e).2])
theorem akI(e:Ex):_4 [.agg (cO e)]=(e.kind=13->0<=e.n/\e.n<=1,.b9 [.int .i64 (qN e).1,.int .i64 (qN e).2]):=aI gC _ e
theorem aIk:aJ Tryz.prog 206 _4:=by
 refine aJ.mS (ps:=[]) (I:=[]) trivial trivial aHL λe h=>?_;try dsimp only at h
 refine ao (fj @awT.eq_1 @gX.eq_1 @ak (ai e)) (ey ?_ ?_ ?_ ?_ ?_ ?_ ?_ ?_ (fF ?_ ?_ ?_ ?_ (JJ ?_)))<;>intros;all_goals(obtain⟨kind,n,name,op,arms,ar⟩:=e;simp only[Ex.kind,Ex.n,Ex.arms]at*;grind[qN,Ex.kind,Ex.n,Ex.arms])
def kP(e:Ex):Bool:=
 if e.kind=5 then e.op==1&&e.ar.length==1&&(e.ar.getD 0 default).kind==1 else e.kind==1||e.kind==2||e.kind==4
def Mw:Ab->Prop×J:=bJ gX λe=>(True,.bool (kP e))
theorem ayR(e:Ex):Mw [.agg (cO e)]=(True,.bool (kP e)):=aI gC _ e
theorem aIl:aJ Tryz.prog 193 Mw:=by
 refine aJ.mS (ps:=[]) (I:=[]) trivial trivial aHx λe _=>?_;by_cases c:0<e.ar.length
 .have g0:(e.ar.map cO).getD 0 []=cO (e.ar.getD 0 default):=ag cO (by simp[c]);have hg:=ai (e.ar.getD 0 default);rw[hg]at g0;have E:kP e=if e.kind=5 then e.op==1&&(e.ar.length:Int)==1&&(e.ar.getD 0 default).kind==1 else e.kind==1||e.kind==2||e.kind==4:=by
   unfold kP;have:((e.ar.length:Int)==1)=(e.ar.length==1):=by grind
   rw[this]
  rw[E];generalize e.ar.getD 0 default=y at*;refine ao (fj @nw.eq_1 @gX.eq_1 (ai e) g0) (jg ?_ ?_ ?_ ?_ ?_ (JJ ?_))<;>intros<;>simp_all
 .have hl:(e.ar.length:Int)=0:=by omega
  have E:kP e=if e.kind=5 then false else e.kind==1||e.kind==2||e.kind==4:=by simp_all[kP]
  rw[E];refine ao (fj @nw.eq_1 @gX.eq_1 (ai e) hl) (fF ?_ ?_ ?_ ?_ (JJ ?_))<;>intros<;>simp_all
def vF(e:Ex):Bool:=if e.kind=14 then e.ar.all kP else kP e
def JA:Ab->Prop×J:=bJ gX λe=>(e.ar.length<=1000000000,.bool (vF e))
theorem ayS(e:Ex):JA [.agg (cO e)]=(e.ar.length<=1000000000,.bool (vF e)):=aI gC _ e
theorem ayT:aJ Tryz.prog 174 JA:=by
 refine aJ.mS (ps:=[(193,Mw)]) (I:=[]) ⟨aIl,BB⟩ trivial aHf λe h=>?_;try dsimp only at h
 have h:e.ar.length<=1000000000:=h;have Y:=ayR e;simp only[ai e]at Y;by_cases c:e.kind=14;rotate_left
 .have E:vF e=kP e:=by simp[vF,c]
  have c1:(e.kind !=14)=true:=by simp[c]
  rw[E];exact ao (fF @pH.eq_1 @gX.eq_1 (ai e) Y c1) zz
 have E:vF e=e.ar.all kP:=by simp[vF,c]
 have c1:(e.kind !=14)=false:=by simp[c]
 rw[E];refine ao (fj @pH.eq_1 @gX.eq_1 (ai e) c1) (JJ ?_);refine aj e.ar (λk (_:Unit)=>⟨[(1,.ref (cO e)),(3,.int .i64 k)],[]⟩) (λk r _=>r.all kP=e.ar.all kP) () (AI _) (CF (ai e)) rfl (λk x r _ d U Z E=>?_) (λk _ e2 E=>?_)
 .rw[MM]at E;have e2:=ayR x;simp only[ai x]at e2;cases hf:kP x
  .rw[hf,C4]at E;exact ao (rO (ai e) d (ag cO U) (ai x) e2 hf (CD E)) zz
  .rw[hf,Pd]at E;refine ao (jg (ai e) d (ag cO U) (ai x) e2 hf) (JJ ?_);exact⟨(),CT,E⟩
 .rw[C1]at E;exact ao (cL (ai e) e2 (CD E)) zz
def fi(e:Ex):Bool:=decide (1<=e.kind)&&decide (e.kind<=17)&&kO e&&G3 e&&E8 e&&decide ((qN e).1<=e.ar.length)&&decide ((e.ar.length:Int)<=(qN e).2)&&(e.kind !=8||vF (e.ar.getD 0 default))
theorem ayU{e:Ex}(h:kO e=true)(k:e.kind=13):0<=e.n/\e.n<=1:=by simp only[kO,k]at h;grind
def _5:Ab->Prop×J:=bJ gX λe=>(e.name.length<=1000000/\e.arms.length<=1000000/\∀x∈e.ar,x.ar.length<=1000000000,.bool (fi e))
theorem akJ(e:Ex):_5 [.agg (cO e)]=(e.name.length<=1000000/\e.arms.length<=1000000/\∀x∈e.ar,x.ar.length<=1000000000,.bool (fi e)):=aI gC _ e
theorem aIm:aJ Tryz.prog 192 _5:=by
 refine aJ.mS (ps:=[(203,Mu),(204,YP),(205,_3),(206,_4),(174,JA)]) (I:=[]) ⟨aIg,aIh,aIj,aIk,ayT,BB⟩ trivial aHw λe h=>?_;try dsimp only at h
 obtain⟨h1,h2,h3⟩:=h;have Y:=aIf e;have e2:=af0 e;have e3:=akH e;have e4:=akI e;rw[lU h1]at e2;rw[lU h2]at e3;simp only[ai e]at Y e2 e3 e4;by_cases q:1<=e.kind/\e.kind<=17/\kO e=true/\G3 e=true/\E8 e=true;rotate_left
 .have E:fi e=false:=by grind[fi,kO,G3,E8,absurd]
  rw[E];refine ao (rO @jY.eq_1 @gX.eq_1 (ai e) Y e2 e3 e4) (JJ (λhn hn hn hn hn=>?_));simp_all
 obtain⟨q1,q2,q3,q4,q5⟩:=q;rw[lU (ayU q3)]at e4;have c1:decide (e.kind<1)=false:=Z7 (by omega);have c2:decide (e.kind>17)=false:=Z7 (by omega);have c3:decide (17<e.kind)=false:=Z7 (by omega);have E:fi e=(decide ((qN e).1<=e.ar.length)&&decide ((e.ar.length:Int)<=(qN e).2)&&(e.kind !=8||vF (e.ar.getD 0 default))):=by simp_all[fi,ON,Pd]
 rw[E];by_cases q8:e.kind=8/\0<e.ar.length
 .obtain⟨q8,q9⟩:=q8;have g0:(e.ar.map cO).getD 0 []=cO (e.ar.getD 0 default):=ag cO (by simp[q9]);have hm:e.ar.getD 0 default∈e.ar:=by simp_all
  have h4:=h3 _ hm;have e5:=ayS (e.ar.getD 0 default);rw[lU h4]at e5;rw[ai]at g0;generalize e.ar.getD 0 default=y at*;simp only[ai y]at e5;have c8:(e.kind !=8)=false:=by simp[q8]
  have q9':(0:Int)<e.ar.length:=by omega
  rw[c8];refine ao (ey @jY.eq_1 @gX.eq_1 (ai e) Y e2 e3 e4 e5 (tM q3 q4 q5 c1 c2 g0 c8 q9')) (JJ (λhn hn=>?_));simp_all
 .by_cases q9:e.kind=8
  .have hl:(e.ar.length:Int)=0:=by omega
   have I:qN e=(2,2):=by simp[qN,q9]
   rw[I]at e4|-;have c8:(e.kind !=8)=false:=by simp[q9]
   rw[c8,hl];exact ao (ey @jY.eq_1 @gX.eq_1 (ai e) Y e2 e3 e4 q3 (fF q4 q5 c1 c2 hl)) zz;all_goals rfl
  .have c8:(e.kind !=8)=true:=by simp[q9]
   rw[c8];refine ao (ey @jY.eq_1 @gX.eq_1 (ai e) Y e2 e3 e4 q3 (fF q4 q5 c1 c2 c8)) (JJ (λhn hn=>?_));simp_all
def nj(e:Ex):Bool:=decide (dt e<=60)&&decide (ny e<=12)&&(az e).all fi
theorem akK{e x:Ex}(h:x∈az e):∀y∈x.ar,y∈az e:=by
 induction e using Ex.ind with
 |h e ih=>
  have self:∀y:Ex,y∈az y:=λy=>by rw[jj];simp
  have key:∀l:List Ex,∀z∈l,∀y∈az z,y∈bQ l:=by
   intro l;induction l with
   |nil=>simp_all
   |cons a l il=>
    intro z hz y hy;rw[bQ];grind
  have back:∀l:List Ex,∀z∈bQ l,∃a∈l,z∈az a:=by
   intro l;induction l with
   |nil=>intro z hz;rw[bQ]at hz;simp at hz
   |cons a l il=>
    intro z hz;rw[bQ]at hz;rcases pt.1 hz with hz|hz<;>simp_all
  rw[jj]at h|-;grind
theorem Gz{e x:Ex}(h:x∈az e):dt x<=dt e:=by
 induction e using Ex.ind with
 |h e ih=>
  have back:∀l:List Ex,∀z∈bQ l,∃a∈l,z∈az a:=by intro l;induction l<;>grind[bQ,pt]
  have le:∀l:List Ex,∀a∈l,dt a<=hY l:=by
   intro l;induction l with
   |nil=>simp_all
   |cons b l il=>
    intro a ha;rw[hY];have h1:=iz b;have h2:=jm l;grind
  rw[jj]at h;rcases NO.1 h with rfl|h
  .omega
  grind[jX]
theorem ayV{e x:Ex}(h:eG e=true)(U:x∈az e):x.name.length<=1000000/\x.arms.length<=1000000/\∀y∈x.ar,y.ar.length<=1000000000:=by simp only[eG,ab,ir,BE]at h;have h1:=h.2 x U;simp only[Bx,ab,ir]at h1;refine⟨by omega,by omega,λy hy=>?_⟩;have h2:=Gz (akK U y hy);have h3:=jm y.ar;have h4:=jX y;omega
def Jz:Ab->Prop×J:=bJ gX λe=>(eG e=true,.bool (nj e))
theorem ayW(e:Ex):Jz [.agg (cO e)]=(eG e=true,.bool (nj e)):=aI gC _ e
theorem ayX:aJ Tryz.prog 173 Jz:=by
 refine aJ.mS (ps:=[(190,Su),(191,J3),(99,Ar),(192,_5)]) (I:=[]) ⟨aH1,aH2,oy,aIm,BB⟩ trivial aHe λe h=>?_;try dsimp only at h
 have h:eG e=true:=h;have h':=h;simp only[eG,ab,ir]at h';have I:dt e<=1000000000:=by omega
 have Y:=ayJ e;have e2:=ayK e;have e3:=As e;rw[lU I]at Y e2 e3;have PJ:=kf e;simp only[ai e]at Y e2 e3;by_cases q1:60<dt e
 .have E:nj e=false:=by simp[nj];omega
  rw[E];exact ao (fF @lK.eq_1 @gX.eq_1 (ai e) Y q1) zz
 by_cases q2:12<ny e
 .have E:nj e=false:=by simp[nj];omega
  rw[E];exact ao (rO @lK.eq_1 @gX.eq_1 (ai e) Y e2 q1 q2) zz
 have E:nj e=(az e).all fi:=by simp_all[dt,ny,nj]
 rw[E];have B:∀x∈az e,x.name.length<=1000000/\x.arms.length<=1000000/\∀y∈x.ar,y.ar.length<=1000000000:=λx U=>ayV h U;generalize az e=l at*;refine ao (tM @lK.eq_1 @gX.eq_1 (ai e) Y e2 e3 q1 q2) (JJ ?_);refine aj l (λk (_:Unit)=>⟨[(3,.sl (l.map cO)),(4,.int .i64 k)],[]⟩) (λk r _=>r.all fi=l.all fi) () (AI _) CT rfl (λk x r _ d U Z E=>?_) (λk _ e4 E=>?_)
 .rw[MM]at E;have e4:=akJ x;rw[lU (B x (ed U))]at e4;simp only[ai x]at e4;cases hf:fi x
  .rw[hf,C4]at E;exact ao (jg d (ag cO U) (ai x) e4 hf (CD E)) zz
  .rw[hf,Pd]at E;refine ao (fF d (ag cO U) (ai x) e4 hf) (JJ ?_);exact⟨(),CT,E⟩
 .rw[C1]at E;exact ao (bV e4 (CD E)) zz
structure uf where
 path:B3
 e:Ex
@[reducible] def aAx(m:uf):Ab:= .str m.path::cO m.e
instance:Inhabited uf:=⟨⟨[],default⟩⟩
abbrev aDN:uf->J:=eA aAx
abbrev azH:List uf->J:=eL aAx
end
end Go.Proofs.YtldnkkkooabaeaaGreat

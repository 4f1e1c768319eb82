/- Right expressions, by the document. -/
import Derived.Test.YtcokmopocppmiaaGreatExA
import Derived.Test.YtcokmopocppmiaaGreatPaF
set_option linter.all false
set_option maxRecDepth 20000
namespace Go.Proofs.YtcokmopocppmiaaGreat
noncomputable section
open Go.Nk
def Bb(e:Ex):Bool:=decide (e.name.length<=200)&&decide (e.arms.length<=20)&&e.arms.all λa=>decide (a.length<=100)
def ab7:List DV->Prop×DV:=bB gC λe=>(dT e<=1000000000,.bool ((ax e).all Bb))
def agu(e):=show ab7 [.agg (cA e)]=_ from aH fv _ e
theorem Hy:aF Tryz.prog 65 ab7:=by
 refine aF.mo (ps:=[(92,yK)]) (hs:=[]) ⟨mW,trivial⟩ trivial Kc λe h=> ?_;try dsimp only at h
 have h:dT e<=1000000000:=h;have RH:=jm e;have e1:=yL e;rw[eq_true h]at e1;generalize ax e=l at*;simp only[ag e]at e1;refine aq (A4 @xN.eq_1 @gC.eq_1 (ag e) e1) (JJ ?_);refine ai l (λk (_:Unit)=>⟨[(3,.sl (l.map cA)),(4,.int .i64 k)],[]⟩) (λk r _=>r.all Bb=l.all Bb) () (Nat.zero_le _) CT rfl (λk x r _ d hx hd hr=> ?_) (λk _ e2 hr=> ?_)
 ·rw[List.all_cons]at hr;by_cases c1:200<x.name.length
  ·have hf:Bb x=false:=by simp[Bb];omega
   have c1':(200:Int)<x.name.length:=by omega
   have hb:l.all Bb=false:=by rw[<-hr,hf,Bool.false_and]
   exact aq (A5 d (af cA hx) (ag x) c1' hb) zz
  by_cases c2:20<x.arms.length
  ·have hf:Bb x=false:=by simp[Bb];omega
   have c1':¬(200:Int)<x.name.length:=by omega
   have c2':(20:Int)<x.arms.length:=by omega
   have hb:l.all Bb=false:=by rw[<-hr,hf,Bool.false_and]
   exact aq (A7 @aj d (af cA hx) (ag x) c1' c2' hb) zz
  have c1':¬(200:Int)<x.name.length:=by omega
  have c2':¬(20:Int)<x.arms.length:=by omega
  have hf:Bb x=x.arms.all λa=>decide (a.length<=100):=by
   have q1:x.name.length<=200:=by omega
   have q2:x.arms.length<=20:=by omega
   simp[Bb,q1,q2]
  refine aq (A6 @aj d (af cA hx) (ag x) c1' c2') (JJ ?_);refine ai x.arms (λj (_:Unit)=>⟨[(3,.sl (l.map cA)),(4,.int .i64 k),(5,.int .i64 j)],[]⟩) (λj q _=>(q.all λa=>decide (a.length<=100))=x.arms.all λa=>decide (a.length<=100)) () (Nat.zero_le _) CT rfl (λj y q _ d2 hy hd2 hq=> ?_) (λj _ e3 hq=> ?_)
  ·rw[List.all_cons]at hq;have N1:=fk hy;by_cases c3:100<y.length
   ·have c3':(100:Int)<y.length:=by omega
    have arN:decide (y.length<=100)=false:=decide_eq_false (by omega);have hb:l.all Bb=false:=by rw[<-hr,hf,<-hq,arN,Bool.false_and,Bool.false_and]
    exact aq (A8 @aj d d2 (af cA hx) (ag x) N1 c3' hb) zz
   ·have c3':¬(100:Int)<y.length:=by omega
    have arN:decide (y.length<=100)=true:=decide_eq_true (by omega);rw[arN,Bool.true_and]at hq;refine aq (A7 @aj d d2 (af cA hx) (ag x) N1 c3') (JJ ?_);exact⟨(),CT,hq⟩
  ·rw[List.all_nil]at hq;have hb:r.all Bb=l.all Bb:=by rw[<-hr,hf,<-hq,Bool.true_and]
   refine aq (A5 @aj d e3 (af cA hx) (ag x)) (JJ ?_);exact⟨(),CT,hb⟩
 ·rw[List.all_nil]at hr;rw[<-hr];exact aq @e2 zz
def er(e:Ex):Bool:=decide (dT e<200)&&(ax e).all Bb
def O9:List DV->Prop×DV:=bB gC λe=>(True,.bool (er e))
def Yf(e):=show O9 [.agg (cA e)]=_ from aH fv _ e
theorem CQ:aF Tryz.prog 38 O9:=by
 refine aF.mo (ps:=[(64,Hz),(65,ab7)]) (hs:=[]) ⟨CW,Hy,trivial⟩ trivial EZ λe h=> ?_;try dsimp only at h
 have e1:=Ph e 200;have e2:=agu e;by_cases c:dT e<200
 ·have hm:max 0 (200-dT e)=200-dT e:=by omega
  have c1:=decide_eq_true (by omega);have c2:=decide_eq_true (by omega);have hr:er e=(ax e).all Bb:=by simp[er,c]
  rw[eq_true (show-1000000000<=(200:Int)/\(200:Int)<=1000000000 by omega),hm]at e1;rw[eq_true (show dT e<=1000000000 by omega)]at e2;rw[hr];simp only[ag e]at e1 e2;exact aq (A6 @nW.eq_1 @gC.eq_1 (ag e) e1 e2 c1) zz
 ·have hm:max 0 (200-dT e)=0:=by omega
  have hr:er e=false:=by simp[er,c]
  rw[eq_true (show-1000000000<=(200:Int)/\(200:Int)<=1000000000 by omega),hm]at e1;rw[hr];simp only[ag e]at e1;exact aq (A4 @nW.eq_1 @gC.eq_1 (ag e) e1) zz
def kG(e:Ex):Bool:=
 decide ((if e.kind=5 then 1 else if e.kind=6 then 3 else 0)<=e.op)&&decide (e.op<=(if e.kind=5 then 2 else if e.kind=6 then 16 else 0))&&
 (if e.kind=1 then decide (0<=e.n)else if e.kind=2\/e.kind=13 then e.n==0||e.n==1 else e.n==0)
def Ke:List DV->Prop×DV:=bB gC λe=>(True,.bool (kG e))
def Vy(e):=show Ke [.agg (cA e)]=_ from aH fv _ e
theorem zV:aF Tryz.prog 200 Ke:=by refine aF.mo (ps:=[]) (hs:=[]) trivial trivial Bc λe _=> ?_;refine aq (A3 @rj.eq_1 @gC.eq_1 (ag e)) (A9 ?_ ?_ ?_ ?_ ?_ ?_ ?_ ?_ (A6 ?_ ?_ ?_ ?_ ?_ (JJ ?_)))<;>intros;all_goals(obtain⟨kind,n,name,op,arms,ar⟩:=e;simp only[Ex.kind,Ex.n,Ex.op]at*;grind[kG,Ex.kind,Ex.n,Ex.op])
def Kf(e:Ex):Bool:=
 if e.kind=3\/e.kind=11\/e.kind=12\/e.kind=13 then pz e.name else if e.kind=4 then Dw e.name else if e.kind=17 then akm e.name else e.name==[]
def Vz:List DV->Prop×DV:=bB gC λe=>(e.name.length<=1000000,.bool (Kf e))
def ab8(e:Ex):=show Vz [.agg (cA e)]=_ from aH fv _ e
theorem CX:aF Tryz.prog 201 Vz:=by
 refine aF.mo (ps:=[(204,Lv),(205,JZ),(210,ab9)]) (hs:=[]) ⟨gI,kp,E0,trivial⟩ trivial E1 λe h=> ?_;try dsimp only at h
 have h:e.name.length<=1000000:=h;refine aq (A6 @ug.eq_1 @rh @BV @agv @gC.eq_1 (ag e)) (A7 ?_ ?_ ?_ ?_ ?_ ?_ (JJ ?_))<;>intros;all_goals(obtain⟨kind,n,name,op,arms,ar⟩:=e;simp only[Ex.kind,Ex.name]at*;grind[Kf,Ex.kind,Ex.name])
def Vr(s:List UInt8):Bool:=Dw s||s==[116,114,117,101]||s==[102,97,108,115,101]
def aca:List DV->Prop×DV:=bB eS λs=>(True,.bool (Vr s))
def SQ(s):=show aca [.str s]=_ from aH ik _ s
theorem HA:aF Tryz.prog 211 aca:=by refine aF.mo (ps:=[(205,JZ)]) (hs:=[]) ⟨kp,trivial⟩ trivial Kg λs _=> ?_;refine aq (A2 @xO.eq_1 @BV) (A3 ?_ ?_ (JJ ?_))<;>intros;all_goals grind[Vr]
def Hj(e:Ex):Bool:=e.arms.all Vr&&(if e.kind=11 then e.arms.length==1 else if e.kind=12 then decide (1<=e.arms.length)&&decide (e.arms.length<=6)&&ri e.arms else e.arms.length==0)
def acb:List DV->Prop×DV:=bB gC λe=>(e.arms.length<=1000000,.bool (Hj e))
def agw(e:Ex):=show acb [.agg (cA e)]=_ from aH fv _ e
theorem E2:aF Tryz.prog 202 acb:=by
 refine aF.mo (ps:=[(211,aca),(194,O7)]) (hs:=[]) ⟨HA,nV,trivial⟩ trivial HB λe h=> ?_;try dsimp only at h
 have h:e.arms.length<=1000000:=h;have e1:=BW e.arms;rw[eq_true (show e.arms.length<=1000000000 by omega)]at e1;refine aq (A3 @vJ.eq_1 @gC.eq_1 (ag e)) (JJ ?_);refine ai e.arms (λk (_:Unit)=>⟨[(1,.ref (cA e)),(3,.int .i64 k)],[]⟩) (λk r _=>r.all Vr=e.arms.all Vr) () (Nat.zero_le _) (CF (ag e)) rfl (λk x r _ d hx hd hr=> ?_) (λk _ e2 hr=> ?_)
 ·rw[List.all_cons]at hr;cases hf:Vr x
  ·rw[hf,Bool.false_and]at hr;have hq:Hj e=false:=by rw[Hj,<-hr,Bool.false_and]
   rw[hq];exact aq (A6 @SQ @aj (ag e) d (fk hx) hf) zz
  ·rw[hf,Bool.true_and]at hr;refine aq (A6 @SQ @aj (ag e) d (fk hx) hf) (JJ ?_);exact⟨(),CT,hr⟩
 ·rw[List.all_nil]at hr;refine aq (A4 @aj (ag e) e2 e1) (A5 ?_ ?_ ?_ ?_ (JJ ?_))<;>intros;all_goals(obtain⟨kind,n,name,op,arms,ar⟩:=e;simp only[Ex.kind,Ex.arms]at*;grind[Hj,Ex.kind,Ex.arms])
def qZ(e:Ex):Int×Int:=
 if e.kind=5\/e.kind=10\/e.kind=11 then(1,1)else if e.kind=6\/e.kind=8\/e.kind=9\/e.kind=15 then(2,2)else if e.kind=7\/e.kind=16 then(3,3)
 else if e.kind=12 then(e.arms.length,e.arms.length)else if e.kind=13 then(e.n,6+e.n)else if e.kind=14 then(1,8)else(0,0)
def acd:List DV->Prop×DV:=bB gC λe=>(e.kind=13->0<=e.n/\e.n<=1,.cy [.int .i64 (qZ e).1,.int .i64 (qZ e).2])
def agx(e:Ex):=show acd [.agg (cA e)]=_ from aH fv _ e
theorem E3:aF Tryz.prog 203 acd:=by
 refine aF.mo (ps:=[]) (hs:=[]) trivial trivial HC λe h=> ?_;try dsimp only at h
 refine aq (A4 @vK.eq_1 @gC.eq_1 @aj (ag e)) (A9 ?_ ?_ ?_ ?_ ?_ ?_ ?_ ?_ (A5 ?_ ?_ ?_ ?_ (JJ ?_)))<;>intros;all_goals(obtain⟨kind,n,name,op,arms,ar⟩:=e;simp only[Ex.kind,Ex.n,Ex.arms]at*;grind[qZ,Ex.kind,Ex.n,Ex.arms])
def kH(e:Ex):Bool:=
 if e.kind=5 then e.op==1&&e.ar.length==1&&(e.ar.getD 0 default).kind==1 else e.kind==1||e.kind==2||e.kind==4
def Kh:List DV->Prop×DV:=bB gC λe=>(True,.bool (kH e))
def HD(e):=show Kh [.agg (cA e)]=_ from aH fv _ e
theorem zW:aF Tryz.prog 190 Kh:=by
 refine aF.mo (ps:=[]) (hs:=[]) trivial trivial Bd λe _=> ?_;by_cases c:0<e.ar.length
 ·have g0:(e.ar.map cA).getD 0 []=cA (e.ar.getD 0 default):=af cA (by simp[c]);have hg:=ag (e.ar.getD 0 default);rw[hg]at g0;have hr:kH e=if e.kind=5 then e.op==1&&(e.ar.length:Int)==1&&(e.ar.getD 0 default).kind==1 else e.kind==1||e.kind==2||e.kind==4:=by
   unfold kH;have:((e.ar.length:Int)==1)=(e.ar.length==1):=by rw[Bool.eq_iff_iff];simp;omega
   rw[this]
  rw[hr];generalize e.ar.getD 0 default=y at*;refine aq (A4 @ma.eq_1 @gC.eq_1 (ag e) g0) (A6 ?_ ?_ ?_ ?_ ?_ (JJ ?_))<;>intros;all_goals grind
 ·have hl:(e.ar.length:Int)=0:=by omega
  have hr:kH e=if e.kind=5 then false else e.kind==1||e.kind==2||e.kind==4:=by
   unfold kH;have:(e.ar.length==1)=false:=by simp;omega
   rw[this];simp
  rw[hr];refine aq (A4 @ma.eq_1 @gC.eq_1 (ag e) hl) (A5 ?_ ?_ ?_ ?_ (JJ ?_))<;>intros;all_goals grind
def wG(e:Ex):Bool:=if e.kind=14 then e.ar.all kH else kH e
def Hg:List DV->Prop×DV:=bB gC λe=>(e.ar.length<=1000000000,.bool (wG e))
def Lr(e:Ex):=show Hg [.agg (cA e)]=_ from aH fv _ e
theorem sx:aF Tryz.prog 170 Hg:=by
 refine aF.mo (ps:=[(190,Kh)]) (hs:=[]) ⟨zW,trivial⟩ trivial E4 λe h=> ?_;try dsimp only at h
 have h:e.ar.length<=1000000000:=h;have e1:=HD e;simp only[ag e]at e1;by_cases c:e.kind=14;rotate_left
 ·have hr:wG e=kH e:=by simp[wG,c]
  have c1:(e.kind !=14)=true:=by simp[c]
  rw[hr];exact aq (A5 @nX.eq_1 @gC.eq_1 (ag e) e1 c1) zz
 have hr:wG e=e.ar.all kH:=by simp[wG,c]
 have c1:(e.kind !=14)=false:=by simp[c]
 rw[hr];refine aq (A4 @nX.eq_1 @gC.eq_1 (ag e) c1) (JJ ?_);refine ai e.ar (λk (_:Unit)=>⟨[(1,.ref (cA e)),(3,.int .i64 k)],[]⟩) (λk r _=>r.all kH=e.ar.all kH) () (Nat.zero_le _) (CF (ag e)) rfl (λk x r _ d hx hd hr=> ?_) (λk _ e2 hr=> ?_)
 ·rw[List.all_cons]at hr;have e2:=HD x;simp only[ag x]at e2;cases hf:kH x
  ·rw[hf,Bool.false_and]at hr;exact aq (A7 (ag e) d (af cA hx) (ag x) e2 hf (Eq.symm hr)) zz
  ·rw[hf,Bool.true_and]at hr;refine aq (A6 (ag e) d (af cA hx) (ag x) e2 hf) (JJ ?_);exact⟨(),CT,hr⟩
 ·rw[List.all_nil]at hr;exact aq (A3 (ag e) e2 (Eq.symm hr)) zz
def ew(e:Ex):Bool:=decide (1<=e.kind)&&decide (e.kind<=17)&&kG e&&Kf e&&Hj e&&decide ((qZ e).1<=e.ar.length)&&decide ((e.ar.length:Int)<=(qZ e).2)&&(e.kind !=8||wG (e.ar.getD 0 default))
theorem SR{e:Ex}(h:kG e=true)(k:e.kind=13):0<=e.n/\e.n<=1:=by simp only[kG,k]at h;simp at h;omega
def ace:List DV->Prop×DV:=bB gC λe=>(e.name.length<=1000000/\e.arms.length<=1000000/\∀x∈e.ar,x.ar.length<=1000000000,.bool (ew e))
def agy(e:Ex):=show ace [.agg (cA e)]=_ from aH fv _ e
theorem E5:aF Tryz.prog 189 ace:=by
 refine aF.mo (ps:=[(200,Ke),(201,Vz),(202,acb),(203,acd),(170,Hg)]) (hs:=[]) ⟨zV,CX,E2,E3,sx,trivial⟩ trivial HE λe h=> ?_;try dsimp only at h
 obtain⟨h1,h2,h3⟩:=h;have e1:=Vy e;have e2:=ab8 e;have e3:=agw e;have e4:=agx e;rw[eq_true h1]at e2;rw[eq_true h2]at e3;simp only[ag e]at e1 e2 e3 e4;by_cases q:1<=e.kind/\e.kind<=17/\kG e=true/\Kf e=true/\Hj e=true;rotate_left
 ·have hr:ew e=false:=by
   unfold ew;by_cases q1:1<=e.kind
   ·by_cases q2:e.kind<=17
    ·cases q3:kG e
     ·simp
     ·cases q4:Kf e
      ·simp
      ·cases q5:Hj e
       ·simp
       ·exact absurd ⟨q1,q2,q3,q4,q5⟩ q
    ·simp[q2]
   ·simp[q1]
  rw[hr];refine aq (A7 @jd.eq_1 @gC.eq_1 (ag e) e1 e2 e3 e4) (JJ (λhn hn hn hn hn=> ?_));all_goals(exfalso;apply q;refine⟨by omega,by omega,?_,?_,?_⟩<;>grind)
 obtain⟨q1,q2,q3,q4,q5⟩:=q;rw[eq_true (SR q3)]at e4;have c1:decide (e.kind<1)=false:=decide_eq_false (by omega);have c2:decide (e.kind>17)=false:=decide_eq_false (by omega);have c3:decide (17<e.kind)=false:=decide_eq_false (by omega);have hr:ew e=(decide ((qZ e).1<=e.ar.length)&&decide ((e.ar.length:Int)<=(qZ e).2)&&(e.kind !=8||wG (e.ar.getD 0 default))):=by unfold ew;rw[decide_eq_true q1,decide_eq_true q2,q3,q4,q5];simp only[Bool.true_and]
 rw[hr];by_cases q8:e.kind=8/\0<e.ar.length
 ·obtain⟨q8,q9⟩:=q8;have g0:(e.ar.map cA).getD 0 []=cA (e.ar.getD 0 default):=af cA (by simp[q9]);have hm:e.ar.getD 0 default∈e.ar:=by
   have:e.ar[0]? =some (e.ar.getD 0 default):=by simp[q9]
   exact List.mem_of_getElem? this
  have h4:=h3 _ hm;have e5:=Lr (e.ar.getD 0 default);rw[eq_true h4]at e5;rw[ag]at g0;generalize e.ar.getD 0 default=y at*;simp only[ag y]at e5;have c8:(e.kind !=8)=false:=by simp[q8]
  have q9':(0:Int)<e.ar.length:=by omega
  rw[c8];refine aq (A9 @jd.eq_1 @gC.eq_1 (ag e) e1 e2 e3 e4 e5 (A8 q3 q4 q5 c1 c2 g0 c8 q9')) (JJ (λhn hn=> ?_));all_goals grind
 ·by_cases q9:e.kind=8
  ·have hl:(e.ar.length:Int)=0:=by have:¬0<e.ar.length:=λh=>q8 ⟨q9,h⟩;omega
   have hs:qZ e=(2,2):=by simp[qZ,q9]
   rw[hs]at e4|-;have c8:(e.kind !=8)=false:=by simp[q9]
   rw[c8,hl];exact aq (A9 @jd.eq_1 @gC.eq_1 (ag e) e1 e2 e3 e4 q3 (A5 q4 q5 c1 c2 hl)) zz;all_goals rfl
  ·have c8:(e.kind !=8)=true:=by simp[q9]
   rw[c8];refine aq (A9 @jd.eq_1 @gC.eq_1 (ag e) e1 e2 e3 e4 q3 (A5 q4 q5 c1 c2 c8)) (JJ (λhn hn=> ?_));all_goals grind
def mV(e:Ex):Bool:=decide (dT e<=60)&&decide (mX e<=12)&&(ax e).all ew
theorem agz{e x:Ex}(h:x∈ax e):∀y∈x.ar,y∈ax e:=by
 induction e using Ex.ind with
 |h e ih=>
  have self:∀y:Ex,y∈ax y:=λy=>by rw[iA];simp
  have key:∀l:List Ex,∀z∈l,∀y∈ax z,y∈bC l:=by
   intro l;induction l with
   |nil=>intro z hz;simp at hz
   |cons a l il=>
    intro z hz y hy;rw[bC];rcases List.mem_cons.1 hz with rfl|hz
    ·exact List.mem_append.2 (.inl hy)
    ·exact List.mem_append.2 (.inr (il z hz y hy))
  have back:∀l:List Ex,∀z∈bC l,∃a∈l,z∈ax a:=by
   intro l;induction l with
   |nil=>intro z hz;rw[bC]at hz;simp at hz
   |cons a l il=>
    intro z hz;rw[bC]at hz;rcases List.mem_append.1 hz with hz|hz
    ·exact⟨a,by simp,hz⟩
    ·obtain⟨b,hb,h⟩:=il z hz;exact⟨b,by simp[hb],h⟩
  rw[iA]at h|-;intro y hy;rcases List.mem_cons.1 h with rfl|h
  ·exact List.mem_cons_of_mem _ (key _ y hy y (self y))
  ·obtain⟨a,ha,hx⟩:=back _ x h;exact List.mem_cons_of_mem _ (key _ a ha y (ih a ha hx y hy))
theorem EB{e x}(h:x∈ax e):dT x<=dT e:=by
 induction e using Ex.ind with
 |h e ih=>
  have back:∀l:List Ex,∀z∈bC l,∃a∈l,z∈ax a:=by
   intro l;induction l with
   |nil=>intro z hz;rw[bC]at hz;simp at hz
   |cons a l il=>
    intro z hz;rw[bC]at hz;rcases List.mem_append.1 hz with hz|hz
    ·exact⟨a,by simp,hz⟩
    ·obtain⟨b,hb,h⟩:=il z hz;exact⟨b,by simp[hb],h⟩
  have le:∀l:List Ex,∀a∈l,dT a<=fB l:=by
   intro l;induction l with
   |nil=>intro a ha;simp at ha
   |cons b l il=>
    intro a ha;rw[fB];have h1:=gH b;have h2:=iB l;rcases List.mem_cons.1 ha with rfl|ha
    ·omega
    ·have:=il a ha;omega
  rw[iA]at h;rcases List.mem_cons.1 h with rfl|h
  ·exact Int.le_refl _
  ·obtain⟨a,ha,hx⟩:=back _ x h;have h1:=ih a ha hx;have h2:=le _ a ha;rw[jb e];omega
theorem Lt{e x:Ex}(h:er e=true)(hx:x∈ax e):x.name.length<=1000000/\x.arms.length<=1000000/\∀y∈x.ar,y.ar.length<=1000000000:=by simp only[er,Bool.and_eq_true,decide_eq_true_eq,List.all_eq_true]at h;have h1:=h.2 x hx;simp only[Bb,Bool.and_eq_true,decide_eq_true_eq]at h1;refine⟨by omega,by omega,λy hy=> ?_⟩;have h2:=EB (agz hx y hy);have h3:=iB y.ar;have h4:=jb y;omega
def Hf:List DV->Prop×DV:=bB gC λe=>(er e=true,.bool (mV e))
def Lq(e):=show Hf [.agg (cA e)]=_ from aH fv _ e
theorem sw:aF Tryz.prog 169 Hf:=by
 refine aF.mo (ps:=[(187,Pj),(188,HF),(92,yK),(189,ace)]) (hs:=[]) ⟨E6,CY,mW,E5,trivial⟩ trivial E7 λe h=> ?_;try dsimp only at h
 have h:er e=true:=h;have h':=h;simp only[er,Bool.and_eq_true,decide_eq_true_eq]at h';have hs:dT e<=1000000000:=by omega
 have e1:=SS e;have e2:=Pk e;have e3:=yL e;rw[eq_true hs]at e1 e2 e3;have RH:=jm e;simp only[ag e]at e1 e2 e3;by_cases q1:60<dT e
 ·have hr:mV e=false:=by simp[mV];omega
  rw[hr];exact aq (A5 @ku.eq_1 @gC.eq_1 (ag e) e1 q1) zz
 by_cases q2:12<mX e
 ·have hr:mV e=false:=by simp[mV];omega
  rw[hr];exact aq (A7 @ku.eq_1 @gC.eq_1 (ag e) e1 e2 q1 q2) zz
 have hr:mV e=(ax e).all ew:=by
  have a1:dT e<=60:=by omega
  have a2:mX e<=12:=by omega
  simp[mV,a1,a2]
 rw[hr];have hp:∀x∈ax e,x.name.length<=1000000/\x.arms.length<=1000000/\∀y∈x.ar,y.ar.length<=1000000000:=λx hx=>Lt h hx;generalize ax e=l at*;refine aq (A8 @ku.eq_1 @gC.eq_1 (ag e) e1 e2 e3 q1 q2) (JJ ?_);refine ai l (λk (_:Unit)=>⟨[(3,.sl (l.map cA)),(4,.int .i64 k)],[]⟩) (λk r _=>r.all ew=l.all ew) () (Nat.zero_le _) CT rfl (λk x r _ d hx hd hr=> ?_) (λk _ e4 hr=> ?_)
 ·rw[List.all_cons]at hr;have e4:=agy x;rw[eq_true (hp x (List.mem_of_getElem? hx))]at e4;simp only[ag x]at e4;cases hf:ew x
  ·rw[hf,Bool.false_and]at hr;exact aq (A6 d (af cA hx) (ag x) e4 hf (Eq.symm hr)) zz
  ·rw[hf,Bool.true_and]at hr;refine aq (A5 d (af cA hx) (ag x) e4 hf) (JJ ?_);exact⟨(),CT,hr⟩
 ·rw[List.all_nil]at hr;exact aq (A2 e4 (Eq.symm hr)) zz
structure Mov where
 path:List UInt8
 e:Ex
instance:Inhabited Mov:=⟨⟨[],default⟩⟩
end
end Go.Proofs.YtcokmopocppmiaaGreat

/- Instants: calls, and equations that tell (24). -/
import Derived.Test.YtcokmopocppmiaaGreatPgKe
import Derived.Test.YtcokmopocppmiaaGreatMsH
set_option maxHeartbeats 8000000
set_option linter.all false
set_option maxRecDepth 20000
namespace Go.Proofs.YtcokmopocppmiaaGreat
noncomputable section
open Go.Nk
def W9(l:jw):Prop:=okW l/\WW l
def sE(N:Nat):List DV->Prop×DV:=Ak jz eI cT iY λl at_ m ins=>(W9 l/\jX l N at_ m ins,.cy [.sl ((aZ l N at_ m ins).1.map dG),.sl ((aZ l N at_ m ins).2.1.map aT),.int .i64 (aZ l N at_ m ins).2.2])
def NZ(N)(l)(at_)(m:List cW)(ins:List (List Int)):=show sE N [.agg (b8 l),.int .i64 at_,.sl (m.map aT),.sl (ins.map dG)]=_ from tG o9 b6 gQ o6 _ l at_ m ins
def dD(N:Nat)(v:gR)(q:Pl):List (List Int)×List cW×Int:=aZ v.l N q.node (oM v.l v.m v.env q) (q.args.map (aG v.env))
def xh(N:Nat)(v:gR)(q:Pl):Prop:=RB v.l (aZ v.l N) (jX v.l N) (ad v.l v.at_) v.m q ⟨v.env,v.th⟩
def vb(N:Nat)(v:gR)(q:Pl):gR:=if(dD N v q).2.2=0 then⟨v.l,v.at_,v.m,iD v.th (aD q) (dD N v q).2.1,v.env⟩else v
def Uw(N:Nat):=mE TX (λq:Pl=>[.agg (fJ q)]) λv q=>(W9 v.l/\q.kind=7/\xh N v q,.cy [.sl ((dD N v q).1.map dG),.int .i64 (dD N v q).2.2],vb N v q)
theorem Xn(N:Nat){hp t:List ak}{n m:Nat}{v:gR}(k:fw hp n m)(q:Pl):Uw N [.ptr n 1 0 0,.agg (fJ q)] (TX.put hp n m v++t)=⟨W9 v.l/\q.kind=7/\xh N v q,.cy [.sl ((dD N v q).1.map dG),.int .i64 (dD N v q).2.2],TX.put hp n m (vb N v q)++t⟩:=eM fK qE _ k q
theorem GF(o:List (List Int))(x):o.map dG++[[.sl (cX x)]]=(o++[x]).map dG:=by simp
theorem Xm(o:List (List Int)):(o.map dG).take o.length=o.map dG:=List.take_of_length_le (by simp)
theorem ai7{N}(hS:aF Tryz.prog 27 (sE N)):g9 Tryz.prog 76 (Uw N):=by
 refine g9.Xg (ps:=[(109,GD),(30,lL),(27,sE N),(110,D0)]) (hs:=[(78,xo),(104,pd)]) fK ⟨Ux,yo,hS,Xo,trivial⟩ ⟨Js,GJ,trivial⟩ zO (λ_=>rfl) (λ_ _ _=>rfl) λn m hp v q k h=> ?_;obtain⟨hI,hk,h0,hn,hM,hT,h⟩:=h;rw[if_pos hk]at h;obtain⟨h1,h2,h3,h4,h5,h6⟩:=h;dsimp only at h0 hn hM hT h1 h2 h3 h4 h5 h6|-;have hr:dD N v q=aZ v.l N q.node (oM v.l v.m v.env q) (q.args.map (aG v.env)):=rfl;have hcv:vb N v q=if(dD N v q).2.2=0 then⟨v.l,v.at_,v.m,iD v.th (aD q) (dD N v q).2.1,v.env⟩else v:=rfl;rw[<-hr]at h6;have e4:=NZ N v.l q.node (oM v.l v.m v.env q) (q.args.map (aG v.env));rw[eq_true (And.intro hI h5),<-hr]at e4;have e3:=jV v.l q.node;rw[eq_true hI.1]at e3;have e2:=N8 v.m (aD q);rw[eq_true (⟨(dV hM).1,by omega,(dV hM).2⟩:ji v.m/\(aD q).length<=1000000/\∀c∈v.m,c.path.length<=4503599627370496)]at e2;rw[hcv];have j9:oM v.l v.m v.env q=if q.reset/\aP v.env (q.ev,q.en)≠0 then b7 v.l q.node else fu v.m (aD q):=rfl;have e5:(dD N v q).2.2=0->D0 [.sl (v.th.map aT),.str (aD q),.sl ((dD N v q).2.1.map aT)]=(True,.sl ((iD v.th (aD q) (dD N v q).2.1).map aT)):=λh=>by have:=(h6 h).2;rw[Sp,eq_true (⟨(dV hT).1,by omega,(dV this).1,(dV hT).2⟩:ji v.th/\(aD q).length<=1000000/\ji (dD N v q).2.1/\∀c∈v.th,c.path.length<=4503599627370496)]
 generalize oM v.l v.m v.env q=S at*;generalize dD N v q=R at*;obtain⟨kind,names,op,args,init,node,rs,ev,en,on⟩:=q;match names,h0 with
 |s::ns,_=>
 have zK:aD ⟨kind,s::ns,op,args,init,node,rs,ev,en,on⟩=s:=rfl;rw[zK]at e2 e5 j9|-;dsimp only at*;have gs:(dI (s::ns)).getD 0 []=[.str s]:=rfl;refine lJ @pU.eq_1 (JJ ?_);refine ai args (λj (x:List (List Int)×List ak)=>⟨[(0,.ptr n 1 0 0),(3,.ref (fJ ⟨kind,s::ns,op,args,init,node,rs,ev,en,on⟩)),(6,.own hp.length x.1.length 0 x.1.length),(15,.sl (args.map eD)),(16,.int .i64 args.length),(17,.int .i64 j)],TX.put hp n m v++(⟨.aN,1,x.1.map dG⟩::x.2)⟩) (λj r x=>x.1++r.map (aG v.env)=args.map (aG v.env)/\x.1.length<=j) ([],[]) trivial CT ⟨rfl,Nat.le_refl _⟩ (λj a r x d hx hd hr=> ?_) (λj x e hr=> ?_)
 ·obtain⟨o,g⟩:=x;obtain⟨r1,r2⟩:=hr;dsimp only at r1 r2;rw[List.map_cons]at r1;have ga:=af eD hx;obtain⟨s1,i1⟩:=a;have e1:=λt=>kM (t:=t) (v:=v) k s1 i1;refine lJ (A8 d ga e1 @rO @lh @apI @ai8 @GF) (JJ ?_);exact⟨(o++[aG v.env (s1,i1)],_),CT,by simpa using r1,by simp;omega⟩
 ·obtain⟨o,g⟩:=x;obtain⟨r1,r2⟩:=hr;dsimp only at r1 r2;rw[List.map_nil,List.append_nil]at r1;subst r1;have ht:(List.map dG (args.map (aG v.env))).take args.length=(args.map (aG v.env)).map dG:=List.take_of_length_le (by simp);by_cases cr:rs=true
  ·subst cr;obtain⟨h31,h32⟩:=h3 rfl;have e1:=λt=>sZ (t:=t) k h31;generalize aP v.env (ev,en)=I at*;by_cases ci:I=0
   ·subst ci;rw[if_neg (by simp)]at j9;subst j9;by_cases c:R.2.2=0
    ·have e5:=e5 c;rw[if_pos c];refine lJ (A9 @aj e @rO @lh @qO k gs e1 (A5 e2 e4 ht c e5)) (JJ ?_);all_goals first|exact⟨_,_,rfl,rfl⟩|(have hth:=Dk (v:=v) (t:=(⟨.sY,1,(args.map (aG v.env)).map dG⟩:ak)::g) k (iD v.th s R.2.1);simp only[rX]at hth;exact⟨_,_,hth,rfl⟩)
    ·rw[if_neg c];refine lJ (A9 @aj e @rO @lh @qO k gs e1 (A3 e2 e4 ht)) (JJ (λhn=> ?_));all_goals first|exact absurd (by assumption) c|exact⟨_,_,rfl,rfl⟩|(have hth:=Dk (v:=v) (t:=(⟨.sY,1,(args.map (aG v.env)).map dG⟩:ak)::g) k (iD v.th s R.2.1);simp only[rX]at hth;exact⟨_,_,hth,rfl⟩)
   ·rw[if_pos (by simpa using ci)]at j9;subst j9;by_cases c:R.2.2=0
    ·have e5:=e5 c;rw[if_pos c];refine lJ (A9 @aj e @rO @lh @qO k gs e1 (A6 e2 e3 e4 ht c e5)) (JJ (λhn=> ?_));all_goals first|exact absurd (by assumption) ci|exact⟨_,_,rfl,rfl⟩|(have hth:=Dk (v:=v) (t:=(⟨.sY,1,(args.map (aG v.env)).map dG⟩:ak)::g) k (iD v.th s R.2.1);simp only[rX]at hth;exact⟨_,_,hth,rfl⟩)
    ·rw[if_neg c];refine lJ (A9 @aj e @rO @lh @qO k gs e1 (A4 e2 e3 e4 ht)) (JJ (λhn hn=> ?_));all_goals first|exact absurd (by assumption) c|exact absurd (by assumption) ci|exact⟨_,_,rfl,rfl⟩|(have hth:=Dk (v:=v) (t:=(⟨.sY,1,(args.map (aG v.env)).map dG⟩:ak)::g) k (iD v.th s R.2.1);simp only[rX]at hth;exact⟨_,_,hth,rfl⟩)
  ·have cr:rs=false:=by simpa using cr
   subst cr;rw[if_neg (by simp)]at j9;subst j9;by_cases c:R.2.2=0
   ·have e5:=e5 c;rw[if_pos c];refine lJ (A9 @aj e @rO @lh @qO k gs e2 (A4 e4 ht c e5)) (JJ ?_);all_goals first|exact⟨_,_,rfl,rfl⟩|(have hth:=Dk (v:=v) (t:=(⟨.sY,1,(args.map (aG v.env)).map dG⟩:ak)::g) k (iD v.th s R.2.1);simp only[rX]at hth;exact⟨_,_,hth,rfl⟩)
   ·rw[if_neg c];refine lJ (A9 @aj e @rO @lh @qO k gs e2 (A2 e4 ht)) (JJ (λhn=> ?_));all_goals first|exact absurd (by assumption) c|exact⟨_,_,rfl,rfl⟩|(have hth:=Dk (v:=v) (t:=(⟨.sY,1,(args.map (aG v.env)).map dG⟩:ak)::g) k (iD v.th s R.2.1);simp only[rX]at hth;exact⟨_,_,hth,rfl⟩)
def doV(N:Nat)(v:gR)(q:Pl):gR:=⟨v.l,v.at_,v.m,(yq v.l (aZ v.l N) (ad v.l v.at_) v.m q ⟨v.env,v.th⟩).1.th,(yq v.l (aZ v.l N) (ad v.l v.at_) v.m q ⟨v.env,v.th⟩).1.env⟩
def doE(N:Nat)(v:gR)(q:Pl):Int:=(yq v.l (aZ v.l N) (ad v.l v.at_) v.m q ⟨v.env,v.th⟩).2
def ad6(N:Nat):=mE TX (λq:Pl=>[.agg (fJ q)]) λv q=>(W9 v.l/\Co v/\xh N v q,.int .i64 (doE N v q),doV N v q)
theorem afP(N:Nat){hp t:List ak}{n m:Nat}{v:gR}(k:fw hp n m)(q:Pl):ad6 N [.ptr n 1 0 0,.agg (fJ q)] (TX.put hp n m v++t)=⟨W9 v.l/\Co v/\xh N v q,.int .i64 (doE N v q),TX.put hp n m (doV N v q)++t⟩:=eM fK qE _ k q
theorem Sr{f}{m}{env}{q:Pl}(hk:q.kind≠7):slD (iZ f m env q)=some (.sl (cX (aM f m env q).1)):=by
 unfold iZ;split
 ·rename_i c;obtain⟨c1,c2⟩:=c;have:aM f m env q=([],16):=by rcases c1 with c1|c1<;>(unfold aM;rw[if_neg c2];simp[c1])
  rw[this];rfl
 ·rfl
theorem aq4{N}(hS:aF Tryz.prog 27 (sE N)):g9 Tryz.prog 47 (ad6 N):=by
 refine g9.Xg (ps:=[]) (hs:=[(75,Uy),(76,Uw N)]) fK trivial ⟨ai9,ai7 hS,trivial⟩ Cr (λ_=>rfl) (λ_ _ _=>rfl) λn m hp v q k h=> ?_;obtain⟨hI,hV,hD⟩:=h;dsimp only;have hD':=hD;obtain⟨h0,hn,hM,hT,h⟩:=hD;dsimp only at h0 hn hM hT;have cR:=λt=>Xn N (t:=t) (v:=v) k q;have sR:=λt=>Xp (t:=t) (v:=v) k q;by_cases c7:q.kind=7
 ·rw[if_pos c7]at h;rw[eq_true (⟨hI,c7,hD'⟩:W9 v.l/\q.kind=7/\xh N v q)]at cR;obtain⟨h1,h2,h3,h4,h5,h6⟩:=h;have hr:dD N v q=aZ v.l N q.node (oM v.l v.m v.env q) (q.args.map (aG v.env)):=rfl;dsimp only at h6;rw[<-hr]at h6;by_cases c:(dD N v q).2.2=0
  ·have hq:yq v.l (aZ v.l N) (ad v.l v.at_) v.m q ⟨v.env,v.th⟩=(⟨dQ q.names (dD N v q).1 v.env,iD v.th (aD q) (dD N v q).2.1⟩,0):=by unfold yq;rw[if_pos c7];dsimp only;rw[<-hr,if_pos c]
   have hcv:vb N v q=⟨v.l,v.at_,v.m,iD v.th (aD q) (dD N v q).2.1,v.env⟩:=by unfold vb;rw[if_pos c]
   have hw:=(h6 c).1;simp only[doE,doV,hq];rw[hcv]at cR;generalize iD v.th (aD q) (dD N v q).2.1=T at*;generalize dD N v q=R at*;obtain⟨kind,names,op,args,init,node,rs,ev,en,on⟩:=q;dsimp only at*;subst c7;simp only[fJ]at cR;have hw2:R.1.length<=1000:=by omega
   generalize R.1=W at*;generalize hc2:R.2.2=E at*;subst c
   ((have az:=Bool.and_self;refine aL.of ?_);(repeat' (first|((with_reducible refine aL.to ?_);(repeat(simp only[↓rP,rT,rU,aC,aw,aQ,cI,cS,bA,aI,DV.aY,cellsOf,Nat.reduceEqDiff,Nat.reduceAdd,↓reduceIte,reduceCtorEq,Nat.reduceLeDiff,Nat.reduceLT,jC,aj,cR,az]))))))
   refine ai names (λj (e:kc)=>⟨[(0,.ptr n 1 0 0),(7,.sl (W.map dG)),(40,.sl (dI names)),(41,.int .i64 names.length),(42,.int .i64 j)],TX.put hp n m ⟨v.l,v.at_,v.m,T,e⟩++[]⟩) (λj r e=>dQ r (W.drop j) e=dQ names W v.env) v.env trivial CT (by simp) (λj s r e d hx hd hr=> ?_) (λj e ej hr=> ?_)
   ·have hj:j<W.length:=by omega
    obtain⟨x,hxW,hxd⟩:=dP W (k:=j) (by omega);rw[hxd]at hr;have gs:=fk hx;have gw:=af dG hxW;have hse:=aja (v:=⟨v.l,v.at_,v.m,T,e⟩) (t:=[]) k (zM s x e)
    ((refine aL.of ?_);(repeat' (first|((with_reducible refine aL.to ?_);(repeat(first|(simp only[↓rP,rT,rU,aC,aw,cI,cS,bA,aI,alive,Nat.reduceEqDiff,↓reduceIte,reduceCtorEq,aj,d,gs,gw,hj,qO k,abp k,fG,Kd.Uz,Option.bind_some,slD,mpH,xl,hse,aj])|((simp(disch:=omega) only[tH])))))|((with_reducible refine And.intro ?_ ?_); . omega)|fail)))
    exact⟨zM s x e,CT,hr⟩
   ·have:W.drop j=[]:=List.drop_of_length_le (by omega);rw[this]at hr;have hr:e=dQ names W v.env:=hr;subst hr
    ((refine aL.of ?_);(repeat' (first|((with_reducible refine aL.to ?_);(repeat(simp only[↓rP,rT,rU,aC,aw,cI,cS,aW,DR.val,Nat.reduceEqDiff,↓reduceIte,reduceCtorEq,xp,ej]))))))
    all_goals exact⟨_,_,rfl,rfl⟩
  ·have hq:yq v.l (aZ v.l N) (ad v.l v.at_) v.m q ⟨v.env,v.th⟩=(⟨v.env,v.th⟩,(dD N v q).2.2):=by unfold yq;rw[if_pos c7];dsimp only;rw[<-hr,if_neg c]
   have hcv:vb N v q=v:=by unfold vb;rw[if_neg c]
   simp only[doE,doV,hq];rw[hcv]at cR;generalize dD N v q=R at*;obtain⟨kind,names,op,args,init,node,rs,ev,en,on⟩:=q;dsimp only at*;subst c7;simp only[fJ]at cR;generalize R.2.2=E at*
   ((have az:=Bool.and_self;refine aL.of ?_);(repeat' (first|((with_reducible refine aL.to ?_);(repeat(simp only[↓rP,rT,rU,aC,aw,aQ,cI,cS,bA,aI,aW,DR.val,DV.aY,cellsOf,Nat.reduceEqDiff,Nat.reduceAdd,↓reduceIte,reduceCtorEq,Nat.reduceLeDiff,Nat.reduceLT,jC,xp,cR,az])))|(((((with_reducible refine cN (t:= ?_) ?_ (λcZ=> ?_) (λcZ=> ?_));rotate_left; . (rfl)))<;>(have hn:=cZ;have az:=cZ)<;>(try simp only[bne_iff_ne,ne_eq,bne_eq_false_iff_eq]at hn)<;>(try(exfalso;omega))<;>(refine aL.of ?_)))|fail)))
   all_goals first|exact absurd (by assumption) c|exact⟨_,_,rfl,rfl⟩
 ·rw[if_neg c7]at h;rw[eq_true (⟨hV,c7,h0,hM,h.2⟩:Co v/\q.kind≠7/\0<q.names.length/\mD v.m/\aU (ad v.l v.at_) v.env q)]at sR;have hq:yq v.l (aZ v.l N) (ad v.l v.at_) v.m q ⟨v.env,v.th⟩=(⟨zM (aD q) (aM (ad v.l v.at_) v.m v.env q).1 v.env,v.th⟩,(aM (ad v.l v.at_) v.m v.env q).2):=by unfold yq;rw[if_neg c7]
  have hs:=Sr (f:=ad v.l v.at_) (m:=v.m) (env:=v.env) c7;simp only[doE,doV,hq];generalize iZ (ad v.l v.at_) v.m v.env q=D at*;generalize aM (ad v.l v.at_) v.m v.env q=E at*;obtain⟨kind,names,op,args,init,node,rs,ev,en,on⟩:=q;match names,h0 with
  |s::ns,_=>
  have zK:aD ⟨kind,s::ns,op,args,init,node,rs,ev,en,on⟩=s:=rfl;rw[zK];simp only[fJ]at sR;dsimp only at c7;have gs:(dI (s::ns)).getD 0 []=[.str s]:=rfl;have hse:=aja (v:=v) (t:=[]) k (zM s E.1 v.env)
  ((have az:=Bool.and_self;refine aL.of ?_);(repeat' (first|((with_reducible refine aL.to ?_);(repeat(simp only[↓rP,rT,rU,aC,aw,aQ,cI,cS,bA,aI,aW,DR.val,DV.aY,alive,cellsOf,Nat.reduceEqDiff,Nat.reduceAdd,↓reduceIte,reduceCtorEq,Int.reduceToNat,Int.reduceLE,Nat.reduceLeDiff,Nat.reduceLT,jC,aj,xp,sR,gs,qO k,abp k,fG,Kd.Uz,Option.bind_some,hs,mpH,xl,hse,aj,az])))|((with_reducible refine And.intro ?_ ?_); . omega)|(((((with_reducible refine cN (t:= ?_) ?_ (λcZ=> ?_) (λcZ=> ?_));rotate_left; . (rfl)))<;>(have hn:=cZ;have az:=cZ)<;>(try simp only[bne_iff_ne,ne_eq,bne_eq_false_iff_eq]at hn)<;>(try(exfalso;omega))<;>(refine aL.of ?_)))|fail)))
  all_goals first|exact absurd (by assumption) c7|exact⟨_,_,rfl,rfl⟩
def apJ(v:gR)(qs:List Pl):gR:=⟨v.l,v.at_,v.m,kQ v.env qs v.th,v.env⟩
theorem anE:GK (λx:Fl=>[DV.agg (j0 x)]):=λx y h=>by injection h with h _;injection h with h;exact GL x y h
def M3:=mE TX (λf:Fl=>[.agg (j0 f)]) λv f=>(f.eqs.length<=1000000/\wC v.env f.eqs v.th,.cy [],apJ v f.eqs)
theorem Xq{hp t}{n m}{v:gR}(k:fw hp n m)(f:Fl):M3 [.ptr n 1 0 0,.agg (j0 f)] (TX.put hp n m v++t)=⟨f.eqs.length<=1000000/\wC v.env f.eqs v.th,.cy [],TX.put hp n m (apJ v f.eqs)++t⟩:=eM fK anE _ k f
theorem ajb:g9 Tryz.prog 48 M3:=by
 refine g9.Xg (ps:=[(77,Xk)]) (hs:=[(46,xq),(78,xo)]) fK ⟨abq,trivial⟩ ⟨St,Js,trivial⟩ zP (λ_=>rfl) (λ_ _ _=>rfl) λn m hp v f k h=> ?_;obtain⟨h1,h2⟩:=h;obtain⟨name,ins,outs,vars,eqs⟩:=f;dsimp only at h1 h2|-;refine aq @pV.eq_1 (JJ ?_);refine ai eqs (λj (x:List cW×List ak)=>⟨[(0,.ptr n 1 0 0),(7,.sl (eqs.map fJ)),(8,.int .i64 eqs.length),(9,.int .i64 j)],TX.put hp n m ⟨v.l,v.at_,v.m,x.1,v.env⟩++x.2⟩) (λj r x=>wC v.env r x.1/\kQ v.env r x.1=kQ v.env eqs v.th) (v.th,[]) trivial CT ⟨h2,rfl⟩ (λj q r x d hx hd hr=> ?_) (λj x e hr=> ?_)
 ·obtain⟨th,g⟩:=x;obtain⟨⟨r1,r2,r3⟩,r4⟩:=hr;dsimp only at r1 r2 r3 r4;rw[kQ]at r4;have gq:=af fJ hx;have hR:∀t,xq [.ptr n 1 0 0,.sl (q.on.map eD)] (TX.put hp n m ⟨v.l,v.at_,v.m,th,v.env⟩++t)=⟨True,.bool (bK v.env q.on),TX.put hp n m ⟨v.l,v.at_,v.m,th,v.env⟩++t⟩:=λt=>by rw[GM k,eq_true r1]
  obtain⟨kind,names,op,args,init,node,rs,ev,en,on⟩:=q;dsimp only at*;generalize hh:bK v.env on=H at*;by_cases c:kind=5
  ·subst c;cases H
   ·rw[if_neg (by simp)]at r3 r4;refine lJ (A5 d gq hR @ij.UA @ij.UB) (JJ ?_);all_goals exact⟨(th,_),CT,r3,r4⟩
   ·rw[if_pos ⟨rfl,rfl⟩]at r3 r4;obtain⟨p1,p2,p3,p4⟩:=r2 ⟨rfl,rfl⟩;match names,p1 with
    |s::ns,_=>
    match args,p2 with
    |(s1,i1)::as_,_=>
    have zK:aD ⟨5,s::ns,op,(s1,i1)::as_,init,node,rs,ev,en,on⟩=s:=rfl;have ha0:bg ⟨5,s::ns,op,(s1,i1)::as_,init,node,rs,ev,en,on⟩ 0=(s1,i1):=rfl;rw[zK,ha0]at r3 r4;rw[ha0]at p4;have p4:(aG v.env (s1,i1)).length<=1000:=p4;have e1:∀t,xo [.ptr n 1 0 0,.agg [.str s1,.int .i64 i1]] (TX.put hp n m ⟨v.l,v.at_,v.m,th,v.env⟩++t)=⟨True,.sl (cX (aG v.env (s1,i1))),TX.put hp n m ⟨v.l,v.at_,v.m,th,v.env⟩++t⟩:=λt=>kM k s1 i1;have e2:=Xl th s (aG v.env (s1,i1));rw[eq_true (⟨(dV p3).1,by omega⟩:ji th/\(aG v.env (s1,i1)).length<=1000000)]at e2;generalize aG v.env (s1,i1)=V at*;have gs:(dI (s::ns)).getD 0 []=[.str s]:=rfl;have hth:∀t,(TX.put hp n m ⟨v.l,v.at_,v.m,th,v.env⟩++t).set n ⟨.loc,6,[rX m ⟨v.l,v.at_,v.m,xm th s V,v.env⟩]⟩=TX.put hp n m ⟨v.l,v.at_,v.m,xm th s V,v.env⟩++t:=λt=>Dk (v:=⟨v.l,v.at_,v.m,th,v.env⟩) k _;simp only[rX]at hth;refine lJ (A9 @aj d gq hR @ij.UA @ij.UB @qO k (A4 gs e1 e2 hth)) (JJ ?_);all_goals exact⟨(xm th s V,_),CT,r3,r4⟩
  ·rw[if_neg (λh=>c h.1)]at r3 r4;refine lJ (A4 d gq @ij.UA @ij.UB) (JJ (λhn=> ?_));all_goals first|exact absurd (by assumption) c|exact⟨(th,_),CT,r3,r4⟩
 ·obtain⟨th,g⟩:=x;obtain⟨r1,r4⟩:=hr;dsimp only at r4;have r4:th=kQ v.env eqs v.th:=r4;subst r4;refine lJ @e (JJ ?_);all_goals exact⟨_,_,rfl,rfl⟩
@[reducible] def zN(l:jw)(at_:Int)(m:List cW)(s:Ss):gR:=⟨l,at_,m,s.th,s.env⟩
theorem Jr(a b c):fw [a,b,c] 2 1:=⟨by simp,by simp,by decide⟩
theorem Uu(a:ak)(v:gR)(t:List ak):TX.put [a,⟨.dead,0,[]⟩,⟨.dead,0,[]⟩] 2 1 v++t=a::⟨.mp (v.env.map lQ),0,[]⟩::⟨.loc,6,[rX 1 v]⟩::t:=rfl
theorem aub{N:Nat}{l:jw}{f:Fl}{m:List cW}{q:Pl}{r:List Pl}{s:Ss}:fU l (aZ l N) f m (q::r) s=if bK s.env q.on then(if(yq l (aZ l N) f m q s).2=0 then fU l (aZ l N) f m r (yq l (aZ l N) f m q s).1 else yq l (aZ l N) f m q s)else fU l (aZ l N) f m r s:=rfl
theorem auh:aF Tryz.prog 27 (sE 0):=by refine aF.mk4 (ps:=[(49,ad7)]) (hs:=[]) ⟨ajc,trivial⟩ trivial Dl λl at_ m ins h=> ?_;exact absurd h.2 id
theorem aq6{N:Nat}(hS:aF Tryz.prog 27 (sE N)):aF Tryz.prog 27 (sE (N+1)):=by
 refine aF.mk4 (ps:=[(49,ad7)]) (hs:=[(46,xq),(47,ad6 N),(48,M3)]) ⟨ajc,trivial⟩ ⟨St,aq4 hS,ajb,trivial⟩ Dl λl at_ m ins h=> ?_;obtain⟨hI,ha0,ha1,hlen,Xe,hl2,hl3,hR,hK⟩:=h;have NW:aZ l (N+1) at_ m ins=if(fU l (aZ l N) (ad l at_) m (ad l at_).eqs (rQ (ad l at_) m ins)).2=0 then
  ((ad l at_).outs.map λd=>lP (fU l (aZ l N) (ad l at_) m (ad l at_).eqs (rQ (ad l at_) m ins)).1.env d.name,
    kQ (fU l (aZ l N) (ad l at_) m (ad l at_).eqs (rQ (ad l at_) m ins)).1.env (ad l at_).eqs (fU l (aZ l N) (ad l at_) m (ad l at_).eqs (rQ (ad l at_) m ins)).1.th,0)
  else([],m,(fU l (aZ l N) (ad l at_) m (ad l at_).eqs (rQ (ad l at_) m ins)).2):=rfl
 dsimp only;rw[NW];clear NW;have hV1:∀th env,Co ⟨l,at_,m,th,env⟩:=λ_ _=>⟨hI.2,ha0,ha1⟩;have hfa:∀th env,ad (⟨l,at_,m,th,env⟩:gR).l (⟨l,at_,m,th,env⟩:gR).at_=ad l at_:=λ_ _=>rfl;obtain⟨fg,fm,fl⟩:=tE (hV1 [] []);dsimp only at fg fm fl;have dR:∀(q:Pl) (s:Ss) (a:ak) (t:List ak),RB l (aZ l N) (jX l N) (ad l at_) m q s->ad6 N [.ptr 2 1 0 0,.agg (fJ q)] (a::⟨.mp (s.env.map lQ),0,[]⟩::⟨.loc,6,[rX 1 (zN l at_ m s)]⟩::t)=
  ⟨True,.int .i64 (yq l (aZ l N) (ad l at_) m q s).2,a::⟨.mp ((yq l (aZ l N) (ad l at_) m q s).1.env.map lQ),0,[]⟩::⟨.loc,6,[rX 1 (zN l at_ m (yq l (aZ l N) (ad l at_) m q s).1)]⟩::t⟩:=λq s a t hq=>by
  have:=afP N (t:=t) (v:=zN l at_ m s) (Jr a ⟨.dead,0,[]⟩ ⟨.dead,0,[]⟩) q;rw[eq_true (show W9 l/\Co (zN l at_ m s)/\xh N (zN l at_ m s) q from⟨hI,hV1 _ _,hq⟩),Uu,Uu]at this;exact this
 have hR2:∀(on:List dY) (s:Ss) (a:ak) (t:List ak),on.length<=1000->xq [.ptr 2 1 0 0,.sl (on.map eD)] (a::⟨.mp (s.env.map lQ),0,[]⟩::⟨.loc,6,[rX 1 (zN l at_ m s)]⟩::t)=
  ⟨True,.bool (bK s.env on),a::⟨.mp (s.env.map lQ),0,[]⟩::⟨.loc,6,[rX 1 (zN l at_ m s)]⟩::t⟩:=λon s a t ho=>by
  have:=GM (t:=t) (v:=zN l at_ m s) (Jr a ⟨.dead,0,[]⟩ ⟨.dead,0,[]⟩) on;rw[eq_true ho,Uu]at this;exact this
 have kR:∀(s:Ss) (a:ak) (t:List ak),wC s.env (ad l at_).eqs s.th->M3 [.ptr 2 1 0 0,.agg (j0 (ad l at_))] (a::⟨.mp (s.env.map lQ),0,[]⟩::⟨.loc,6,[rX 1 (zN l at_ m s)]⟩::t)=
  ⟨True,.cy [],a::⟨.mp (s.env.map lQ),0,[]⟩::⟨.loc,6,[rX 1 (zN l at_ m ⟨s.env,kQ s.env (ad l at_).eqs s.th⟩)]⟩::t⟩:=λs a t ho=>by
  have:=Xq (t:=t) (v:=zN l at_ m s) (Jr a ⟨.dead,0,[]⟩ ⟨.dead,0,[]⟩) (ad l at_);rw[eq_true (show(ad l at_).eqs.length<=1000000/\wC (zN l at_ m s).env (ad l at_).eqs (zN l at_ m s).th from⟨by omega,ho⟩),Uu,Uu]at this;exact this
 generalize ad l at_=f at*;obtain⟨dr,eV,cB,fvars,cU⟩:=f;have hs0:rQ ⟨dr,eV,cB,fvars,cU⟩ m ins=⟨dQ (eV.map (·.name)) ins [],m⟩:=rfl;rw[hs0]at hR hK|-;dsimp only at hlen Xe hl2 hl3 hR hK kR|-;refine aq (A7 @Dm.eq_1 @cT.eq_1 @jz.eq_1 @iY.eq_1 ha0 ha1 fg) (JJ ?_);refine ai eV (λj (e:kc)=>⟨[(2,.sl (m.map aT)),(3,.sl (ins.map dG)),(11,.ptr 0 1 0 0),(12,.ptr 2 1 0 0),(34,.sl (eV.map dZ)),(35,.int .i64 eV.length),(36,.int .i64 j)],[⟨.loc,5,[[.str dr,.sl (eV.map dZ),.sl (cB.map dZ),.sl (fvars.map dZ),.sl (cU.map fJ)]]⟩,⟨.mp (e.map lQ),0,[]⟩,⟨.loc,6,[[.sl (l.enums.map jQ),.sl (l.fs.map j0),.int .i64 at_,.sl (m.map aT),.sl (m.map aT),.mp 1]]⟩]⟩)
  (λj r e=>dQ (r.map (·.name)) (ins.drop j) e=dQ (eV.map (·.name)) ins []) [] (by decide) CT rfl (λj x r e d hx hd hr=> ?_) (λj e ej hr=> ?_)
 ·have hj:j<ins.length:=by omega
  obtain⟨y,hyI,hyd⟩:=dP ins (k:=j) (by omega);rw[hyd,List.map_cons]at hr;have gx:=af dZ hx;have gy:=af dG hyI;obtain⟨vn,vk,ve,vl,von⟩:=x;refine aq (A6 d gx gy hj @Option.bind_some.{0,0} @xl) (JJ ?_);exact⟨zM vn y e,CT,hr⟩
 ·have hr:e=dQ (eV.map (·.name)) ins []:=hr;rw[<-hr]at hR hK|-;clear hr;refine aq @ej (JJ ?_);refine ai cU (λj (s:Ss)=>⟨[(2,.sl (m.map aT)),(11,.ptr 0 1 0 0),(12,.ptr 2 1 0 0),(53,.sl (cU.map fJ)),(54,.int .i64 cU.length),(55,.int .i64 j)],[⟨.loc,5,[[.str dr,.sl (eV.map dZ),.sl (cB.map dZ),.sl (fvars.map dZ),.sl (cU.map fJ)]]⟩,⟨.mp (s.env.map lQ),0,[]⟩,⟨.loc,6,[[.sl (l.enums.map jQ),.sl (l.fs.map j0),.int .i64 at_,.sl (m.map aT),.sl (s.th.map aT),.mp 1]]⟩]⟩)
   (λj r s=>Oa l (aZ l N) (jX l N) ⟨dr,eV,cB,fvars,cU⟩ m r s/\fU l (aZ l N) ⟨dr,eV,cB,fvars,cU⟩ m r s=fU l (aZ l N) ⟨dr,eV,cB,fvars,cU⟩ m cU ⟨e,m⟩) ⟨e,m⟩ (by decide) CT ⟨hR,rfl⟩ (λj q r s d hx hd hr=> ?_) (λj s ej2 hr=> ?_)
  ·obtain⟨⟨r1,r2⟩,r3⟩:=hr;rw[aub]at r3;have gq:=af fJ hx;have h2:=λt=>hR2 q.on s ⟨.loc,5,[[.str dr,.sl (eV.map dZ),.sl (cB.map dZ),.sl (fvars.map dZ),.sl (cU.map fJ)]]⟩ t r1;by_cases c:bK s.env q.on=true
   ·rw[if_pos c]at r2 r3;obtain⟨r21,r22⟩:=r2;have h3:=λt=>dR q s ⟨.loc,5,[[.str dr,.sl (eV.map dZ),.sl (cB.map dZ),.sl (fvars.map dZ),.sl (cU.map fJ)]]⟩ t r21;rw[c]at h2;generalize yq l (aZ l N) ⟨dr,eV,cB,fvars,cU⟩ m q s=D at*;obtain⟨D1,D2⟩:=D;dsimp only at h3 r22 r3;obtain⟨kind,names,op,args,init,node,rs,ev,en,on⟩:=q;simp only[fJ,rX]at h2 h3;by_cases c2:D2=0
    ·rw[if_pos c2]at r3;subst c2;refine aq (A4 d gq h2 h3) (JJ ?_);all_goals exact⟨D1,CT,r22 rfl,r3⟩
    ·rw[if_neg c2]at r3;rw[<-r3];exact aq (A5 d gq h2 h3 c2) zz;all_goals exact absurd (by assumption) c2
   ·rw[if_neg c]at r2 r3;rw[show bK s.env q.on=false by simpa using c]at h2;obtain⟨kind,names,op,args,init,node,rs,ev,en,on⟩:=q;simp only[rX]at h2;refine aq (A3 d gq h2) (JJ ?_);all_goals exact⟨s,CT,r2,r3⟩
  ·obtain⟨_,hr⟩:=hr;have hr:(s,(0:Int))=fU l (aZ l N) ⟨dr,eV,cB,fvars,cU⟩ m cU ⟨e,m⟩:=hr;rw[<-hr]at hK|-;obtain⟨hK1,hK2⟩:=hK rfl;dsimp only at hK1 hK2|-;have h4:=λt=>kR s ⟨.loc,5,[[.str dr,.sl (eV.map dZ),.sl (cB.map dZ),.sl (fvars.map dZ),.sl (cU.map fJ)]]⟩ t hK1;simp only[j0,rX]at h4;rw[if_pos rfl];generalize kQ s.env cU s.th=T at*;refine aq (A2 ej2 h4) (JJ ?_);refine ai cB (λj (o:List (List Int))=>⟨[(12,.ptr 2 1 0 0),(18,.own 3 o.length 0 o.length),(76,.sl (cB.map dZ)),(77,.int .i64 cB.length),(78,.int .i64 j)],[⟨.loc,5,[[.str dr,.sl (eV.map dZ),.sl (cB.map dZ),.sl (fvars.map dZ),.sl (cU.map fJ)]]⟩,⟨.mp (s.env.map lQ),0,[]⟩,⟨.loc,6,[[.sl (l.enums.map jQ),.sl (l.fs.map j0),.int .i64 at_,.sl (m.map aT),.sl (T.map aT),.mp 1]]⟩,⟨.aN,1,o.map dG⟩]⟩)
    (λj r o=>o++r.map (λd=>lP s.env d.name)=cB.map (λd=>lP s.env d.name)/\o.length<=j) [] (by decide) CT ⟨rfl,Nat.le_refl _⟩ (λj x r o d hx hd hr=> ?_) (λj o ej3 hr=> ?_)
   ·obtain⟨r1,r2⟩:=hr;rw[List.map_cons]at r1;have gx:=af dZ hx;have hv:(lP s.env x.name).length<=1000:=hK2 x (List.mem_of_getElem? hx);have e1:=ajd (lP s.env x.name);rw[eq_true (show(lP s.env x.name).length<=1000000 by omega)]at e1;obtain⟨vn,vk,ve,vl,von⟩:=x;dsimp only at e1 r1;refine aq (A6 d gx @Option.bind_some.{0,0} @pb e1 @GF) (JJ ?_);exact⟨o++[lP s.env vn],CT,by simpa using r1,by simp;omega⟩
   ·obtain⟨r1,r2⟩:=hr;rw[List.map_nil,List.append_nil]at r1;rw[<-r1];exact aq (A2 ej3 @Xm) zz
theorem aiV(N):aF Tryz.prog 27 (sE N):=by
 induction N with
 |zero=>exact auh
 |succ N ih=>exact aq6 ih
end
end Go.Proofs.YtcokmopocppmiaaGreat

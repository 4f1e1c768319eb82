/- Types, enums: which are right, how many cells, which are alike. -/
import Derived.Test.YtldnkkkooabaeaaGreatBa
set_option linter.all false
set_option maxRecDepth 20000
namespace Go.Proofs.YtldnkkkooabaeaaGreat
noncomputable section
open Go.Nk
structure Ty where
 k:Int
 e:Int
 n:Int
@[reducible] def dE(t:Ty):Ab:=[.int .i64 t.k,.int .i64 t.e,.int .i64 t.n]
theorem P4:∀x y,dE x=dE y->x=y:=λx y h=>by cases x;simp_all
instance:Inhabited Ty:=⟨⟨0,0,0⟩⟩
abbrev sQ:Ty->J:=eA dE
theorem qI:ux sQ:=A0 P4
structure En where
 name:B3
 ct:BS
@[reducible] def kF(x:En):Ab:=[.str x.name,.sl (cW x.ct)]
theorem sN:∀x y,kF x=kF y->x=y:=λx y h=>by cases x;cases y;simp only[kF,DO,J.str.injEq,J.sl.injEq,Xv]at h;obtain⟨rfl,h2⟩:=h;rw[Dr h2]
instance:Inhabited En:=⟨⟨[],[]⟩⟩
abbrev ky:List En->J:=eL kF
theorem my:ux ky:=yu sN
def bg(l:List En)(t:Ty):Bool:=
 decide (1<=t.k)&&decide (t.k<=3)&&decide (0<=t.n)&&decide (t.n<=8)&&(if t.k=3 then decide (0<=t.e)&&decide (t.e<l.length)else t.e==0)
def l9:Ab->Prop×J:=cH ky sQ λl t=>(True,.bool (bg l t))
def jT(l:List En)(t):=show l9 [.sl (l.map kF),.agg (dE t)]=_ from aY my qI _ _ _
theorem sU:aJ Tryz.prog 96 l9:=by
 refine aJ.se (ps:=[]) (I:=[]) trivial trivial aFN λl t _=>?_
 (have aF:=IT;refine aM.of ?_;repeat' (first|((with_reducible refine aM.to ?_);try simp only[↓rP,rT,rU,aB,au,cN,cX,bw,aH,aS,DR.val,j0,iD,ik,J.bl,J.one,alive,cellsOf,Nat.reduceEqDiff,Nat.reduceAdd,↓reduceIte,reduceCtorEq,Nat.reduceLT,TO,auR,aF])|((with_reducible refine And.intro ?_ ?_); . first|trivial|omega|(simp;done)|(simp;omega))|((first|((with_reducible refine cP (t:= ?_) ?_ (λdp=>?_) (λdp=>?_));rotate_left; . rfl)|((with_reducible refine bz (t:= ?_) ?_ (λdp=>?_) (λdp=>?_));rotate_left; . rfl))<;>(have hn:=dp;have aF:=dp)<;>(try simp only[ir,Of,GO,Br,SO]at hn)<;>(try(exfalso;omega))<;>(refine aM.of ?_))|(((with_reducible refine bx ?_ ?_ ?_); . rfl)<;>(refine aM.of ?_))))
 all_goals grind[bg]
theorem FY:aJ Tryz.prog 60 l9:=by
 refine aJ.se (ps:=[]) (I:=[]) trivial trivial af6 λl t _=>?_
 (have aF:=IT;refine aM.of ?_;repeat' (first|((with_reducible refine aM.to ?_);try simp only[↓rP,rT,rU,aB,au,cN,cX,bw,aH,aS,DR.val,j0,iD,ik,J.bl,J.one,alive,cellsOf,Nat.reduceEqDiff,Nat.reduceAdd,↓reduceIte,reduceCtorEq,Nat.reduceLT,TO,atH,aF])|((with_reducible refine And.intro ?_ ?_); . first|trivial|omega|(simp;done)|(simp;omega))|((first|((with_reducible refine cP (t:= ?_) ?_ (λdp=>?_) (λdp=>?_));rotate_left; . rfl)|((with_reducible refine bz (t:= ?_) ?_ (λdp=>?_) (λdp=>?_));rotate_left; . rfl))<;>(have hn:=dp;have aF:=dp)<;>(try simp only[ir,Of,GO,Br,SO]at hn)<;>(try(exfalso;omega))<;>(refine aM.of ?_))|(((with_reducible refine bx ?_ ?_ ?_); . rfl)<;>(refine aM.of ?_))))
 all_goals grind[bg]
def cY(t:Ty):Int:=if t.n<1 then 1 else if 8<t.n then 8 else t.n
def pX:Ab->Prop×J:=bJ sQ λt=>(True,.int .i64 (cY t))
def nL(t):=show pX [.agg (dE t)]=_ from aI qI _ _
theorem x8:aJ Tryz.prog 97 pX:=by
 refine aJ.mS (ps:=[]) (I:=[]) trivial trivial aFR λt _=>?_
 (have aF:=IT;refine aM.of ?_;repeat' (first|((with_reducible refine aM.to ?_);try simp only[↓rP,rT,rU,aB,au,cN,cX,bw,aH,aS,DR.val,j0,iD,ik,J.bl,J.one,alive,cellsOf,Nat.reduceEqDiff,Nat.reduceAdd,↓reduceIte,reduceCtorEq,TO,auU,aF])|((with_reducible refine And.intro ?_ ?_); . first|trivial|omega|(simp;done)|(simp;omega))|((first|((with_reducible refine cP (t:= ?_) ?_ (λdp=>?_) (λdp=>?_));rotate_left; . rfl)|((with_reducible refine bz (t:= ?_) ?_ (λdp=>?_) (λdp=>?_));rotate_left; . rfl))<;>(have hn:=dp;have aF:=dp)<;>(try simp only[ir,Of]at hn)<;>(try(exfalso;omega))<;>(refine aM.of ?_))|(((with_reducible refine bx ?_ ?_ ?_); . rfl)<;>(refine aM.of ?_))))
 all_goals grind[cY]
theorem ayF:aJ Tryz.prog 61 pX:=by
 refine aJ.mS (ps:=[]) (I:=[]) trivial trivial af7 λt _=>?_
 (have aF:=IT;refine aM.of ?_;repeat' (first|((with_reducible refine aM.to ?_);try simp only[↓rP,rT,rU,aB,au,bw,aH,aS,DR.val,j0,iD,ik,J.bl,J.one,alive,cellsOf,Nat.reduceEqDiff,Nat.reduceAdd,↓reduceIte,reduceCtorEq,TO,atI])|((with_reducible refine And.intro ?_ ?_); . first|trivial|omega|(simp;done)|(simp;omega))|(((with_reducible refine bx ?_ ?_ ?_); . rfl)<;>(refine aM.of ?_))))
 all_goals grind[cY]
def aAy(l:List En):Prop:=∀x∈l,x.ct.length<=1000000000
theorem YS{l:List En}{j}(h:j<l.length):(l.map kF).getD j []=kF (l.getD j default):=by simp[h]
theorem ah7{l:List En}{t:Ty}(h:bg l t=true)(hk:t.k=3):∃j:Nat,t.e=j/\j<l.length:=by simp only[bg,hk,Bp,ab,ir]at h;exact⟨t.e.toNat,by omega,by omega⟩
structure WD where
 name:B3
 ty:Ty
@[reducible] def tD(p:WD):Ab:=[.str p.name,.int .i64 p.ty.k,.int .i64 p.ty.e,.int .i64 p.ty.n]
instance:Inhabited WD:=⟨⟨[],default⟩⟩
abbrev azI:List WD->J:=eL tD
structure T_ where
 path:B3
 ty:Ty
 at_:Int
 TU:Ba
@[reducible] def aEC(s:T_):Ab:=[.str s.path,.int .i64 s.ty.k,.int .i64 s.ty.e,.int .i64 s.ty.n,.int .i64 s.at_,.sl (cC s.TU)]
instance:Inhabited T_:=⟨⟨[],default,0,[]⟩⟩
@[reducible] def aED(x:S_):Ab:=[.int .i64 x.op,.int .i64 x.a,.int .i64 x.b,.int .i64 x.n]
structure Img where
 en:List En
 ins:List WD
 outs:List WD
 slots:List T_
 loc:Ba
 code:List S_
@[reducible] def aEF(x:Img):Ab:=[.sl (x.en.map kF),.sl (x.ins.map tD),.sl (x.outs.map tD),.sl (x.slots.map aEC),.sl (cC x.loc),.sl (x.code.map aED)]
abbrev aDM:Img->J:=eA aEF
abbrev aDO:WD->J:=eA tD
def Qu(p:Int->Bool)(l:Ba):Int:=if l.any p then(l.findIdx p:Nat)else-1
theorem axt{p}{l:Ba}{k}(hk:k<l.length)(h:∀x∈l.take k,p x=false)(e0:p (l.getD k 0)=true):Qu p l=k:=by
 have hg:l.getD k 0=l[k]:=by simp[hk]
 have e:=hg▸e0;have h1:=List.any_eq_true.2 ⟨l[k],MJ hk,e⟩;have h2:l.findIdx p=k:=by refine(List.findIdx_eq hk).2 ⟨e,λj hj=>?_⟩;exact h _ (List.mem_take_iff_getElem.2 ⟨j,by omega,rfl⟩)
 simp[Qu,h1,h2]
theorem axu{p}{l}(h:∀x∈l,p x=false):Qu p l= -1:=by simp_all[List.any_eq_false,Qu]
theorem axv(p)(l:Ba):decide (0<=Qu p l)=l.any p:=by unfold Qu;grind
theorem abY{p:Int->Bool}{l:Ba}{k:Nat}(hk:k<l.length)(h:∀x∈l.take k,p x=false)(e:p (l.getD k 0)=false):∀x∈l.take (k+1),p x=false:=by grind[List.take_add_one,pt]
def yf(l:List En)(t:Ty)(n:Int):Bool:=if t.k=2 then n==0||n==1 else t.k==1||(decide (0<=n)&&decide (n<(l.getD t.e.toNat default).ct.length))
def EL(l:List En)(t:Ty)(n:Int):Bool:=bg l t&&yf l t n
def bR:Ab->Prop×J:=fp ky sQ eI λl t n=>(True,.bool (EL l t n))
def ab0(l:List En)(t)(n):=show bR [.sl (l.map kF),.agg (dE t),.int .i64 n]=_ from bW my qI cF _ _ _ _
theorem YT{l}{t:Ty}(h:bg l t=true):t.k=1\/t.k=2\/t.k=3:=by simp only[bg,ab,ir]at h;omega
theorem akM:aJ Tryz.prog 98 bR:=by
 refine aJ.zP (ps:=[(96,l9)]) (I:=[]) ⟨sU,BB⟩ trivial aFV λl t n _=>?_;have Y:=jT l t;simp only[dE]at Y;by_cases q:bg l t=true;rotate_left
 ·(have aF:=IT;refine aM.of ?_;repeat' (first|((with_reducible refine aM.to ?_);try simp only[↓rP,rT,rU,eI,aB,au,FE,bw,aH,aS,DR.val,j0,iD,ik,J.bl,bj,bq,cz,b8,fK,bX,dC,J.one,cellsOf,Nat.reduceEqDiff,Nat.reduceAdd,↓reduceIte,reduceCtorEq,Nat.reduceLeDiff,TO,kQ,Y,q])|((with_reducible refine And.intro ?_ ?_); . first|trivial|omega|(simp;done)|(simp;omega))|(((with_reducible refine bx ?_ ?_ ?_); . rfl)<;>(refine aM.of ?_))))
  all_goals grind[EL]
 have E:EL l t n=yf l t n:=by simp[EL,q]
 rw[E];rcases YT q with k|k|k
 .have k1:(t.k==1)=true:=by simp[k]
  have k2:(t.k==2)=false:=by simp[k]
  (have aF:=IT;refine aM.of ?_;repeat' (first|((with_reducible refine aM.to ?_);try simp only[↓rP,rT,rU,eI,aB,au,cN,cX,FE,bw,aH,aS,DR.val,j0,iD,ik,J.bl,bj,bq,cz,b8,fK,bX,dC,J.one,alive,cellsOf,Nat.reduceEqDiff,Nat.reduceAdd,↓reduceIte,reduceCtorEq,Nat.reduceLeDiff,Nat.reduceLT,TO,kQ,Y,q,k1,k2])|((with_reducible refine And.intro ?_ ?_); . first|trivial|omega|(simp;done)|(simp;omega))|(((with_reducible refine bx ?_ ?_ ?_); . rfl)<;>(refine aM.of ?_))))
  all_goals grind[yf]
 .have k2:(t.k==2)=true:=by simp[k]
  (have aF:=IT;refine aM.of ?_;repeat' (first|((with_reducible refine aM.to ?_);try simp only[↓rP,rT,rU,eI,aB,au,cN,cX,FE,bw,aH,aS,DR.val,j0,iD,ik,J.bl,bj,bq,cz,b8,fK,bX,dC,J.one,alive,cellsOf,Nat.reduceEqDiff,Nat.reduceAdd,↓reduceIte,reduceCtorEq,Nat.reduceLeDiff,Nat.reduceLT,TO,kQ,Y,q,k2,aF])|((with_reducible refine And.intro ?_ ?_); . first|trivial|omega|(simp;done)|(simp;omega))|((first|((with_reducible refine cP (t:= ?_) ?_ (λdp=>?_) (λdp=>?_));rotate_left; . rfl)|((with_reducible refine bz (t:= ?_) ?_ (λdp=>?_) (λdp=>?_));rotate_left; . rfl))<;>(have hn:=dp;have aF:=dp)<;>(try simp only[GO,Br,SO]at hn)<;>(try(exfalso;omega))<;>(refine aM.of ?_))|(((with_reducible refine bx ?_ ?_ ?_); . rfl)<;>(refine aM.of ?_))))
  all_goals grind[yf]
 .have k1:(t.k==1)=false:=by simp[k]
  have k2:(t.k==2)=false:=by simp[k]
  obtain⟨i,hi,li⟩:=ah7 q k;have g1:=YS li;simp only[kF]at g1;have hv:yf l t n=(decide (0<=n)&&decide (n<(l.getD i default).ct.length)):=by simp_all[yf,ba]
  rw[hv];rw[hi]at Y;generalize l.getD i default=x at*
  (have aF:=IT;refine aM.of ?_;repeat' (first|((with_reducible refine aM.to ?_);try simp only[↓rP,rT,rU,eI,aB,au,cN,cX,FE,bw,aH,aS,DR.val,j0,iD,ik,J.bl,bj,bq,cz,b8,fK,bX,dC,J.one,alive,cellsOf,Nat.reduceEqDiff,Nat.reduceAdd,↓reduceIte,reduceCtorEq,Nat.reduceLeDiff,Nat.reduceLT,TO,kQ,ak,Y,q,k1,k2,hi,li,g1,aF])|((with_reducible refine And.intro ?_ ?_); . first|trivial|omega|(simp;done)|(simp;omega))|((first|((with_reducible refine cP (t:= ?_) ?_ (λdp=>?_) (λdp=>?_));rotate_left; . rfl)|((with_reducible refine bz (t:= ?_) ?_ (λdp=>?_) (λdp=>?_));rotate_left; . rfl))<;>(have hn:=dp;have aF:=dp)<;>(try simp only[ir,Of]at hn)<;>(try(exfalso;omega))<;>(refine aM.of ?_))|(((with_reducible refine bx ?_ ?_ ?_); . rfl)<;>(refine aM.of ?_))))
  omega
theorem axw:aJ Tryz.prog 59 bR:=by
 refine aJ.zP (ps:=[(60,l9)]) (I:=[]) ⟨FY,BB⟩ trivial akN λl t n _=>?_;have Y:=jT l t;simp only[dE]at Y;by_cases q:bg l t=true;rotate_left
 ·(have aF:=IT;refine aM.of ?_;repeat' (first|((with_reducible refine aM.to ?_);try simp only[↓rP,rT,rU,eI,aB,au,FE,bw,aH,aS,DR.val,j0,iD,ik,J.bl,bj,bq,cz,b8,fK,bX,dC,J.one,cellsOf,Nat.reduceEqDiff,Nat.reduceAdd,↓reduceIte,reduceCtorEq,Nat.reduceLeDiff,TO,zo,Y,q])|((with_reducible refine And.intro ?_ ?_); . first|trivial|omega|(simp;done)|(simp;omega))|(((with_reducible refine bx ?_ ?_ ?_); . rfl)<;>(refine aM.of ?_))))
  all_goals grind[EL]
 have E:EL l t n=yf l t n:=by simp[EL,q]
 rw[E];rcases YT q with k|k|k
 .have k3:(t.k==3)=false:=by simp[k]
  have k2:(t.k==2)=false:=by simp[k]
  (have aF:=IT;refine aM.of ?_;repeat' (first|((with_reducible refine aM.to ?_);try simp only[↓rP,rT,rU,eI,aB,au,cN,cX,FE,bw,aH,aS,DR.val,j0,iD,ik,J.bl,bj,bq,cz,b8,fK,bX,dC,J.one,alive,cellsOf,Nat.reduceEqDiff,Nat.reduceAdd,↓reduceIte,reduceCtorEq,Nat.reduceLeDiff,Nat.reduceLT,TO,zo,Y,q,k2,k3])|((with_reducible refine And.intro ?_ ?_); . first|trivial|omega|(simp;done)|(simp;omega))|(((with_reducible refine bx ?_ ?_ ?_); . rfl)<;>(refine aM.of ?_))))
  all_goals grind[yf]
 .have k2:(t.k==2)=true:=by simp[k]
  (have aF:=IT;refine aM.of ?_;repeat' (first|((with_reducible refine aM.to ?_);try simp only[↓rP,rT,rU,eI,aB,au,cN,cX,FE,bw,aH,aS,DR.val,j0,iD,ik,J.bl,bj,bq,cz,b8,fK,bX,dC,J.one,alive,cellsOf,Nat.reduceEqDiff,Nat.reduceAdd,↓reduceIte,reduceCtorEq,Nat.reduceLeDiff,Nat.reduceLT,TO,zo,Y,q,k2,aF])|((with_reducible refine And.intro ?_ ?_); . first|trivial|omega|(simp;done)|(simp;omega))|((first|((with_reducible refine cP (t:= ?_) ?_ (λdp=>?_) (λdp=>?_));rotate_left; . rfl)|((with_reducible refine bz (t:= ?_) ?_ (λdp=>?_) (λdp=>?_));rotate_left; . rfl))<;>(have hn:=dp;have aF:=dp)<;>(try simp only[GO,Br,SO]at hn)<;>(try(exfalso;omega))<;>(refine aM.of ?_))|(((with_reducible refine bx ?_ ?_ ?_); . rfl)<;>(refine aM.of ?_))))
  all_goals grind[yf]
 .have k1:(t.k==1)=false:=by simp[k]
  have k2:(t.k==2)=false:=by simp[k]
  have k3:(t.k==3)=true:=by simp[k]
  obtain⟨i,hi,li⟩:=ah7 q k;have g1:=YS li;simp only[kF]at g1;have hv:yf l t n=(decide (0<=n)&&decide (n<(l.getD i default).ct.length)):=by simp_all[yf,ba]
  rw[hv];rw[hi]at Y;generalize l.getD i default=x at*
  (have aF:=IT;refine aM.of ?_;repeat' (first|((with_reducible refine aM.to ?_);try simp only[↓rP,rT,rU,eI,aB,au,cN,cX,FE,bw,aH,aS,DR.val,j0,iD,ik,J.bl,bj,bq,cz,b8,fK,bX,dC,J.one,alive,cellsOf,Nat.reduceEqDiff,Nat.reduceAdd,↓reduceIte,reduceCtorEq,Nat.reduceLeDiff,Nat.reduceLT,TO,zo,ak,Y,q,k2,k3,hi,li,g1,aF])|((with_reducible refine And.intro ?_ ?_); . first|trivial|omega|(simp;done)|(simp;omega))|((first|((with_reducible refine cP (t:= ?_) ?_ (λdp=>?_) (λdp=>?_));rotate_left; . rfl)|((with_reducible refine bz (t:= ?_) ?_ (λdp=>?_) (λdp=>?_));rotate_left; . rfl))<;>(have hn:=dp;have aF:=dp)<;>(try simp only[ir,Of]at hn)<;>(try(exfalso;omega))<;>(refine aM.of ?_))|(((with_reducible refine bx ?_ ?_ ?_); . rfl)<;>(refine aM.of ?_))))
  omega
@[reducible] def tc(x:List En×Ty):J:= .Bg 58 [.ref [.sl (x.1.map kF)],.ref (dE x.2)]
theorem ah8:ux tc:=λx y h=>by obtain⟨x1,x2⟩:=x;obtain⟨y1,y2⟩:=y;simp only[tc,J.Bg.injEq,Bt]at h;grind[map_inj,sN,P4]
@[reducible] def avp(l:List En):J:= .ref [.sl (l.map kF)]
theorem ape:ux avp:=λ_ _ h=>by grind[map_inj,sN]
@[reducible] def aAz(t:Ty):J:= .ref (dE t)
theorem atg:ux aAz:=λ_ _ h=>by injection h with h;exact P4 _ _ h
def U_:Ab->Prop×J:=fp eI avp aAz λn l t=>(True,.bool (!EL l t n))
def akO(n)(l:List En)(t):=show U_ [.int .i64 n,.ref [.sl (l.map kF)],.ref (dE t)]=_ from bW cF ape atg _ _ _ _
theorem ath:aJ Tryz.prog 58 U_:=by
 refine aJ.zP (ps:=[(59,bR)]) (I:=[]) ⟨axw,BB⟩ trivial aEQ λn l t _=>?_;have Y:=ab0 l t n;simp only[dE]at Y
 (have aF:=IT;refine aM.of ?_;repeat' (first|((with_reducible refine aM.to ?_);try simp only[↓rP,rT,rU,eI,aB,au,FE,bw,aH,aS,DR.val,j0,iD,ik,J.bl,bj,bq,cz,b8,fK,bX,dC,Nat.reduceEqDiff,Nat.reduceAdd,↓reduceIte,reduceCtorEq,Nat.reduceLeDiff,atF,Y])|((with_reducible refine And.intro ?_ ?_); . first|trivial|omega|(simp;done)|(simp;omega))|(((with_reducible refine bx ?_ ?_ ?_); . rfl)<;>(refine aM.of ?_))))
def Qv(x:List En×Ty)(n:Int):Bool:= !EL x.1 x.2 n
def YU:Ab->Prop×J:=cH mH tc λl x=>(l.length<=1000000000,.int .i64 (Qu (Qv x) l))
def af9(l:Ba)(a:List En)(t):=show YU [.sl (cC l),.Bg 58 [.ref [.sl (a.map kF)],.ref (dE t)]]=_ from aY nN ah8 _ l (a,t)
theorem apf:aJ Tryz.prog 89 YU:=by
 refine aJ.se (ps:=[(58,U_)]) (I:=[]) ⟨ath,BB⟩ trivial aFF λl x h=>?_;obtain⟨a,t⟩:=x
 (have aF:=IT;refine aM.of ?_;repeat' (first|((with_reducible refine aM.to ?_);try simp only[↓rP,rT,aB,au,↓reduceIte,reduceCtorEq,Int.reduceNeg,auH,mH,aU])|((with_reducible refine And.intro ?_ ?_); . first|trivial|omega|(simp;done)|(simp;omega))|(((with_reducible refine bx ?_ ?_ ?_); . rfl)<;>(refine aM.of ?_))))
 refine iQ (λk:Nat=>⟨[(0,.sl (cC l)),(1,.Bg 58 [.ref [.sl (a.map kF)],.ref (dE t)]),(7,.int .i64 l.length),(8,.int .i64 k)],[]⟩) (λk=>k<=l.length/\∀x∈l.take k,Qv (a,t) x=false) (λk=>l.length-k) 0 (by omega) ?_ ⟨AI _,by simp⟩ λk hk=>?_
 .simp only[eH,p0,DD,cS,Nk.get_nil,Nat.reduceEqDiff,↓reduceIte,Ck,J.cut,J.qA,Eh,J.MB,GJ,reduceCtorEq];rfl
 obtain⟨hk,ht⟩:=hk;have hl:l.length<=1000000000:=h;by_cases d:k<l.length
 .have w:IntKind.i64.wrap ((k:Int)+1)=((k+1:Nat):Int):=by rw[df (by omega)];omega
  have Y:=ab2 d;have e2:=akO (l.getD k 0) a t;simp only[dE]at e2
  (have aF:=IT;refine aM.of ?_;repeat' (first|((with_reducible refine aM.to ?_);try simp only[↓rP,rT,rU,aB,au,cN,cX,bw,aH,aS,DR.val,j0,iD,ik,J.bl,bj,bq,cz,b8,bX,dC,Nat.reduceEqDiff,↓reduceIte,reduceCtorEq,Int.reduceNeg,aU,Y,e2,d,w,aF])|((with_reducible refine And.intro ?_ ?_); . omega)|((first|((with_reducible refine cP (t:= ?_) ?_ (λdp=>?_) (λdp=>?_));rotate_left; . rfl)|((with_reducible refine bz (t:= ?_) ?_ (λdp=>?_) (λdp=>?_));rotate_left; . rfl))<;>(have hn:=dp;have aF:=dp)<;>(try simp only[aaa,FU]at hn)<;>(try(exfalso;omega))<;>(refine aM.of ?_))|(((with_reducible refine bx ?_ ?_ ?_); . rfl)<;>(refine aM.of ?_))))
  .rw[axt d ht (by simp_all [Qv])]
  .refine⟨k+1,?_,⟨by omega,abY d ht (by simp_all [Qv])⟩,by omega⟩;simp only[eH,p0,DD,cS,Nk.get_nil,Nat.reduceEqDiff,↓reduceIte,Ck,J.cut,J.qA,Eh,J.MB,GJ,reduceCtorEq]
 .have e:Qu (Qv (a,t)) l= -1:=axu (by
   grind)
  (have aF:=IT;refine aM.of ?_;repeat' (first|((with_reducible refine aM.to ?_);try simp only[↓rP,rT,rU,aB,au,cN,cX,aS,DR.val,j0,iD,ik,J.bl,Nat.reduceEqDiff,↓reduceIte,reduceCtorEq,Int.reduceNeg,d,e])|((with_reducible refine And.intro ?_ ?_); . first|trivial|omega|(simp;done)|(simp;omega))|(((with_reducible refine bx ?_ ?_ ?_); . rfl)<;>(refine aM.of ?_))))
def Sz:Ab->Prop×J:=cH mH tc λl x=>(l.length<=1000000000,.bool (l.any (Qv x)))
def ab3(l:Ba)(a:List En)(t):=show Sz [.sl (cC l),.Bg 58 [.ref [.sl (a.map kF)],.ref (dE t)]]=_ from aY nN ah8 _ l (a,t)
theorem akP:aJ Tryz.prog 62 Sz:=by
 refine aJ.se (ps:=[(89,YU)]) (I:=[]) ⟨apf,BB⟩ trivial aER λl x h=>?_;obtain⟨a,t⟩:=x;have e:=af9 l a t;have e2:=axv (Qv (a,t)) l;rw[lU (show l.length<=1000000000 from h)]at e;simp only[dE]at e
 (have aF:=IT;refine aM.of ?_;repeat' (first|((with_reducible refine aM.to ?_);try simp only[↓rP,rT,rU,aB,au,cN,cX,aS,DR.val,j0,iD,ik,J.bl,bj,bq,cz,b8,kT,uN,bX,dC,Nat.reduceEqDiff,↓reduceIte,reduceCtorEq,atK,mH,e,e2])|((with_reducible refine And.intro ?_ ?_); . first|trivial|omega|(simp;done)|(simp;omega))|(((with_reducible refine bx ?_ ?_ ?_); . rfl)<;>(refine aM.of ?_))))
def jo(l:List En)(t:Ty)(v:Ba):Bool:=bg l t&&(v.length:Int)==cY t&&v.all (EL l t)
def yQ:Ab->Prop×J:=fp ky sQ mH λl t v=>(v.length<=1000000000,.bool (jo l t v))
def ayG(l:List En)(t)(v:Ba):=show yQ [.sl (l.map kF),.agg (dE t),.sl (cC v)]=_ from bW my qI nN _ _ _ _
theorem apg(l)(t)(v:Ba):v.any (Qv (l,t))= !(v.all (EL l t)):=by rw[List.not_all_eq_any_not];rfl
theorem ayH:aJ Tryz.prog 32 yQ:=by
 refine aJ.zP (ps:=[(60,l9),(61,pX),(62,Sz)]) (I:=[]) ⟨FY,ayF,akP,BB⟩ trivial axJ λl t v h=>?_;have Y:=jT l t;have e2:=nL t;have e3:=ab3 v l t;rw[lU (show v.length<=1000000000 from h),apg]at e3;simp only[dE]at Y e2 e3
 (have aF:=IT;refine aM.of ?_;repeat' (first|((with_reducible refine aM.to ?_);try simp only[↓rP,rT,rU,aB,au,cN,cX,FE,bw,aH,aS,DR.val,j0,iD,ik,J.bl,bj,bq,cz,b8,kT,uN,fK,bX,dC,J.one,cellsOf,Nat.reduceEqDiff,Nat.reduceAdd,↓reduceIte,reduceCtorEq,Nat.reduceLeDiff,TO,wQ,aU,Y,e2,e3,aF])|((with_reducible refine And.intro ?_ ?_); . first|trivial|omega|(simp;done)|(simp;omega))|((first|((with_reducible refine cP (t:= ?_) ?_ (λdp=>?_) (λdp=>?_));rotate_left; . rfl)|((with_reducible refine bz (t:= ?_) ?_ (λdp=>?_) (λdp=>?_));rotate_left; . rfl))<;>(have hn:=dp;have aF:=dp)<;>(try simp only[GO,Br,SO]at hn)<;>(try(exfalso;omega))<;>(refine aM.of ?_))|(((with_reducible refine bx ?_ ?_ ?_); . rfl)<;>(refine aM.of ?_))))
 all_goals grind[jo]
theorem ayI:aJ Tryz.prog 70 yQ:=by
 refine aJ.zP (ps:=[(96,l9),(97,pX),(98,bR)]) (I:=[]) ⟨sU,x8,akM,BB⟩ trivial ayd λl t v h=>?_;have Y:=jT l t;have e2:=nL t;simp only[dE]at Y e2;by_cases q:bg l t=true/\(v.length:Int)=cY t;rotate_left
 ·(have aF:=IT;refine aM.of ?_;repeat' (first|((with_reducible refine aM.to ?_);try simp only[↓rP,rT,rU,aB,au,cN,cX,FE,bw,aH,aS,DR.val,j0,iD,ik,J.bl,bj,bq,cz,b8,fK,bX,dC,J.one,cellsOf,Nat.reduceEqDiff,Nat.reduceAdd,↓reduceIte,reduceCtorEq,Nat.reduceLeDiff,TO,jr,mH,aU,Y,e2,aF])|((with_reducible refine And.intro ?_ ?_); . first|trivial|omega|(simp;done)|(simp;omega))|((first|((with_reducible refine cP (t:= ?_) ?_ (λdp=>?_) (λdp=>?_));rotate_left; . rfl)|((with_reducible refine bz (t:= ?_) ?_ (λdp=>?_) (λdp=>?_));rotate_left; . rfl))<;>(have hn:=dp;have aF:=dp)<;>(try simp only[Kf,Br,Ro,aaa,FU]at hn)<;>(try(exfalso;omega))<;>(refine aM.of ?_))|(((with_reducible refine bx ?_ ?_ ?_); . rfl)<;>(refine aM.of ?_))))
  all_goals grind[jo]
 obtain⟨q1,q2⟩:=q;have n1:((v.length:Int) !=cY t)=false:=by simp[q2]
 have E:jo l t v=v.all (EL l t):=by simp[jo,q1,q2]
 (have aF:=IT;refine aM.of ?_;repeat' (first|((with_reducible refine aM.to ?_);try simp only[↓rP,rT,rU,aB,au,cN,cX,FE,bw,aH,J.bl,bj,bq,cz,b8,fK,bX,dC,J.one,cellsOf,Nat.reduceEqDiff,Nat.reduceAdd,↓reduceIte,reduceCtorEq,Nat.reduceLeDiff,TO,jr,mH,aU,Y,e2,q1,n1])|((with_reducible refine And.intro ?_ ?_); . first|trivial|omega|(simp;done)|(simp;omega))|(((with_reducible refine bx ?_ ?_ ?_); . rfl)<;>(refine aM.of ?_))))
 refine iQ (λk:Nat=>⟨[(0,.sl (l.map kF)),(2,.sl (cC v)),(4,.ptr 0 1 0 0),(7,.int .i64 k)],[⟨.loc,3,[dE t]⟩]⟩) (λk=>k<=v.length/\∀x∈v.take k,(λn=> !EL l t n) x=false) (λk=>v.length-k) 0 (by omega) ?_ ⟨AI _,by simp⟩ λk hk=>?_
 .simp only[eH,p0,DD,cS,Nk.get_nil,Nat.reduceEqDiff,↓reduceIte,Ck,J.cut,J.qA,ae.cut,Eh,reduceCtorEq,Nat.zero_lt_one,Hm,Rl];rfl
 obtain⟨hk,ht⟩:=hk;have hl:v.length<=1000000000:=h;by_cases d:k<v.length
 .have w:IntKind.i64.wrap ((k:Int)+1)=((k+1:Nat):Int):=by rw[df (by omega)];omega
  have e3:=ab2 d;have e4:=ab0 l t (v.getD k 0);simp only[dE]at e4
  (have aF:=IT;refine aM.of ?_;repeat' (first|((with_reducible refine aM.to ?_);try simp only[↓rP,rT,rU,aB,au,cN,cX,FE,bw,aH,aS,DR.val,j0,iD,ik,J.bl,bj,bq,cz,b8,fK,bX,dC,Nat.reduceEqDiff,Nat.reduceAdd,↓reduceIte,reduceCtorEq,Nat.reduceLeDiff,aU,e3,e4,d,w,aF])|((with_reducible refine And.intro ?_ ?_); . omega)|((first|((with_reducible refine cP (t:= ?_) ?_ (λdp=>?_) (λdp=>?_));rotate_left; . rfl)|((with_reducible refine bz (t:= ?_) ?_ (λdp=>?_) (λdp=>?_));rotate_left; . rfl))<;>(have hn:=dp;have aF:=dp)<;>(try simp only[aaa,FU]at hn)<;>(try(exfalso;omega))<;>(refine aM.of ?_))|(((with_reducible refine bx ?_ ?_ ?_); . rfl)<;>(refine aM.of ?_))))
  .grind
  .refine⟨k+1,?_,⟨by omega,abY d ht (by simp_all)⟩,by omega⟩;simp only[eH,p0,DD,cS,Nk.get_nil,Nat.reduceEqDiff,↓reduceIte,J.cut,J.qA,ae.cut,Eh,reduceCtorEq,Nat.zero_lt_one,Hm,Rl]
 .have yK:k=v.length:=by omega
  have hc:v.all (EL l t)=true:=by simp_all
  rw[hc]at E
  (have aF:=IT;refine aM.of ?_;repeat' (first|((with_reducible refine aM.to ?_);try simp only[↓rP,rT,rU,aB,au,cN,cX,aS,DR.val,j0,iD,ik,J.bl,Nat.reduceEqDiff,↓reduceIte,reduceCtorEq,aU,d,E])|((with_reducible refine And.intro ?_ ?_); . first|trivial|omega|(simp;done)|(simp;omega))|(((with_reducible refine bx ?_ ?_ ?_); . rfl)<;>(refine aM.of ?_))))
theorem yF(t):1<=cY t/\cY t<=8:=by unfold cY;omega
def aph(l:BS):Bool:=l.all λs=>decide (s.length<=100)
def ya(x:En):Bool:=decide (x.ct.length<=12)&&decide (x.name.length<=100)&&aph x.ct
def vJ(l:List En):Bool:=decide (l.length<=8)&&l.all ya
def YK:Ab->Prop×J:=bJ ky λl=>(True,.bool (vJ l))
def Au(l:List En):=show YK [.sl (l.map kF)]=_ from aI my _ _
theorem ao4:aJ Tryz.prog 42 YK:=by
 refine aJ.mS (ps:=[]) (I:=[]) trivial trivial aEB λl _=>?_;by_cases q:l.length<=8;rotate_left
 .have n1:(8:Int)<(l.length:Int):=by omega
  have E:vJ l=false:=by simp[vJ];omega
  (have aF:=IT;refine aM.of ?_;repeat' (first|((with_reducible refine aM.to ?_);try simp only[↓rP,rT,rU,aB,au,cN,cX,aS,DR.val,j0,iD,ik,J.bl,↓reduceIte,reduceCtorEq,pJ,n1,E])|((with_reducible refine And.intro ?_ ?_); . first|trivial|omega|(simp;done)|(simp;omega))|(((with_reducible refine bx ?_ ?_ ?_); . rfl)<;>(refine aM.of ?_))))
 have n1:¬(8:Int)<(l.length:Int):=by omega
 have E:vJ l=l.all ya:=by simp[vJ,q]
 (have aF:=IT;refine aM.of ?_;repeat' (first|((with_reducible refine aM.to ?_);try simp only[↓rP,rT,rU,aB,au,cN,cX,↓reduceIte,reduceCtorEq,pJ,n1])|((with_reducible refine And.intro ?_ ?_); . first|trivial|omega|(simp;done)|(simp;omega))|(((with_reducible refine bx ?_ ?_ ?_); . rfl)<;>(refine aM.of ?_))))
 refine iQ (λk:Nat=>⟨[(0,.sl (l.map kF)),(3,.int .i64 k)],[]⟩) (λk=>k<=l.length/\∀x∈l.take k,ya x=true) (λk=>l.length-k) 0 (by omega) ?_ ⟨AI _,by simp⟩ λk hk=>?_
 .simp only[eH,p0,DD,cS,Nk.get_nil,↓reduceIte,J.cut,J.qA,Eh,reduceCtorEq];rfl
 obtain⟨hk,ht⟩:=hk;by_cases d:k<l.length;rotate_left
 .have e:=ab4 d ht;rw[e]at E
  (have aF:=IT;refine aM.of ?_;repeat' (first|((with_reducible refine aM.to ?_);try simp only[↓rP,rT,rU,aB,au,cN,cX,aS,DR.val,j0,iD,ik,J.bl,Nat.reduceEqDiff,↓reduceIte,reduceCtorEq,d,E])|((with_reducible refine And.intro ?_ ?_); . first|trivial|omega|(simp;done)|(simp;omega))|(((with_reducible refine bx ?_ ?_ ?_); . rfl)<;>(refine aM.of ?_))))
 have w:IntKind.i64.wrap ((k:Int)+1)=((k+1:Nat):Int):=by rw[df (by omega)];omega
 have Y:=YS d;have n2:= @ah9 _ ya l default k d;have n3:= @ab5 _ ya l default k d ht;generalize l.getD k default=x at*;simp only[kF]at Y;by_cases c:x.ct.length<=12/\x.name.length<=100;rotate_left
 .have:=n2 (by simp only[ya];grind);rw[this]at E
  (have aF:=IT;refine aM.of ?_;repeat' (first|((with_reducible refine aM.to ?_);try simp only[↓rP,rT,rU,aB,au,cN,cX,bw,aH,aS,DR.val,j0,iD,ik,J.bl,Nat.reduceEqDiff,Nat.reduceAdd,↓reduceIte,reduceCtorEq,Nat.reduceLT,ak,Y,d,E,aF])|((with_reducible refine And.intro ?_ ?_); . first|trivial|omega|(simp;done)|(simp;omega))|((first|((with_reducible refine cP (t:= ?_) ?_ (λdp=>?_) (λdp=>?_));rotate_left; . rfl)|((with_reducible refine bz (t:= ?_) ?_ (λdp=>?_) (λdp=>?_));rotate_left; . rfl))<;>(have hn:=dp;have aF:=dp)<;>(try simp only[ir,Of]at hn)<;>(try(exfalso;omega))<;>(refine aM.of ?_))|(((with_reducible refine bx ?_ ?_ ?_); . rfl)<;>(refine aM.of ?_))))
  all_goals(exfalso;omega)
 obtain⟨c1,c2⟩:=c;have m1:¬(12:Int)<(x.ct.length:Int):=by omega
 have m2:¬(100:Int)<(x.name.length:Int):=by omega
 have U:ya x=aph x.ct:=by simp[ya,c1,c2]
 (have aF:=IT;refine aM.of ?_;repeat' (first|((with_reducible refine aM.to ?_);try simp only[↓rP,rT,rU,aB,au,cN,cX,bw,aH,Nat.reduceEqDiff,Nat.reduceAdd,↓reduceIte,reduceCtorEq,Nat.reduceLT,ak,Y,d,m1,m2])|((with_reducible refine And.intro ?_ ?_); . first|trivial|omega|(simp;done)|(simp;omega))|(((with_reducible refine bx ?_ ?_ ?_); . rfl)<;>(refine aM.of ?_))))
 refine iQ (λj:Nat=>⟨[(0,.sl (l.map kF)),(3,.int .i64 k),(4,.int .i64 j)],[]⟩) (λj=>j<=x.ct.length/\∀s∈x.ct.take j,(λs:B3=>decide (s.length<=100)) s=true) (λj=>x.ct.length-j) 0 (by omega) ?_ ⟨AI _,by simp⟩ λj hj=>?_
 .simp only[eH,p0,DD,cS,Nk.get_nil,Nat.reduceEqDiff,↓reduceIte,J.cut,J.qA,Eh,reduceCtorEq];rfl
 obtain⟨hj,I⟩:=hj;by_cases dj:j<x.ct.length;rotate_left
 .have e:=ab4 dj I;have:=n3 (by rw[U];exact e)
  (have aF:=IT;refine aM.of ?_;repeat' (first|((with_reducible refine aM.to ?_);try simp only[↓rP,rT,rU,aB,au,cN,cX,bw,aH,Nat.reduceEqDiff,Nat.reduceAdd,↓reduceIte,reduceCtorEq,ak,Y,d,dj,w])|((with_reducible refine And.intro ?_ ?_); . omega)|(((with_reducible refine bx ?_ ?_ ?_); . rfl)<;>(refine aM.of ?_))))
  refine⟨k+1,?_,⟨by omega,this⟩,by omega⟩;simp only[eH,p0,DD,cS,Nk.get_nil,↓reduceIte,J.cut,J.qA,Eh,reduceCtorEq]
 have aH0:IntKind.i64.wrap ((j:Int)+1)=((j+1:Nat):Int):=by rw[df (by omega)];omega
 have e2:=CG dj;have n4:= @ah9 _ (λs:B3=>decide (s.length<=100)) x.ct [] j dj;have n5:= @ab5 _ (λs:B3=>decide (s.length<=100)) x.ct [] j dj I;generalize x.ct.getD j []=y at*
 (have aF:=IT;refine aM.of ?_;repeat' (first|((with_reducible refine aM.to ?_);try simp only[↓rP,rT,rU,aB,au,cN,cX,bw,aH,aS,DR.val,j0,iD,ik,J.bl,Nat.reduceEqDiff,Nat.reduceAdd,↓reduceIte,reduceCtorEq,ak,Y,e2,d,dj,aH0,aF])|((with_reducible refine And.intro ?_ ?_); . first|trivial|omega|(simp;done)|(simp;omega))|((first|((with_reducible refine cP (t:= ?_) ?_ (λdp=>?_) (λdp=>?_));rotate_left; . rfl)|((with_reducible refine bz (t:= ?_) ?_ (λdp=>?_) (λdp=>?_));rotate_left; . rfl))<;>(have hn:=dp;have aF:=dp)<;>(try simp only[ir,Of]at hn)<;>(try(exfalso;omega))<;>(refine aM.of ?_))|(((with_reducible refine bx ?_ ?_ ?_); . rfl)<;>(refine aM.of ?_))))
 all_goals first
  |(have:=n2 (by rw[U];exact n4 (by simp only[Of];omega))
    simp_all)
  |(refine⟨j+1,?_,⟨by omega,λs yr=>of_decide_eq_true (n5 (by grind) s yr)⟩,by omega⟩
    simp only[eH,p0,DD,cS,Nk.get_nil,Nat.reduceEqDiff,↓reduceIte,J.cut,J.qA,Eh,reduceCtorEq])
end
end Go.Proofs.YtldnkkkooabaeaaGreat

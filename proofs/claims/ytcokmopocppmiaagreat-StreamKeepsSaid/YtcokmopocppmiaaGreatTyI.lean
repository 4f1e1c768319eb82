/- Types, enums: which are right, how many cells, which are alike. -/
import Derived.Test.YtcokmopocppmiaaGreatBa
set_option linter.all false
set_option maxRecDepth 20000
namespace Go.Proofs.YtcokmopocppmiaaGreat
noncomputable section
open Go.Nk
structure Ty where
 k:Int
 e:Int
 n:Int
@[reducible] def cK(t:Ty):List DV:=[.int .i64 t.k,.int .i64 t.e,.int .i64 t.n]
theorem Nf:∀x y,cK x=cK y->x=y:=λx y h=>by cases x;cases y;simp only[cK,List.cons.injEq,DV.int.injEq,true_and,and_true]at h;obtain⟨rfl,rfl,rfl⟩:=h;rfl
instance:Inhabited Ty:=⟨⟨0,0,0⟩⟩
abbrev tW:Ty->DV:=eA cK
theorem qf:rJ tW:=zq Nf
structure En where
 name:List UInt8
 ct:List (List UInt8)
@[reducible] def jQ(x:En):List DV:=[.str x.name,.sl (dI x.ct)]
theorem vh:∀x y,jQ x=jQ y->x=y:=λx y h=>by cases x;cases y;simp only[jQ,List.cons.injEq,DV.str.injEq,DV.sl.injEq,and_true]at h;obtain⟨rfl,h2⟩:=h;rw[BR h2]
instance:Inhabited En:=⟨⟨[],[]⟩⟩
abbrev lN:List En->DV:=eL jQ
theorem mr:rJ lN:=Al vh
def bq(l:List En)(t:Ty):Bool:=
 decide (1<=t.k)&&decide (t.k<=3)&&decide (0<=t.n)&&decide (t.n<=8)&&(if t.k=3 then decide (0<=t.e)&&decide (t.e<l.length)else t.e==0)
def oE:List DV->Prop×DV:=b5 lN tW λl t=>(True,.bool (bq l t))
def py(l:List En)(t):=show oE [.sl (l.map jQ),.agg (cK t)]=_ from aO mr qf _ _ _
theorem wK:aF Tryz.prog 59 oE:=by
 refine aF.oU (ps:=[]) (hs:=[]) trivial trivial Fb λl t _=> ?_
 (have az:=Bool.and_self;refine aL.of ?_;repeat' (first|((with_reducible refine aL.to ?_);try simp only[↓rP,rT,rU,aC,aw,cI,cS,bA,aI,aW,DR.val,jB,iq,hH,DV.aY,DV.one,alive,cellsOf,Nat.reduceEqDiff,Nat.reduceAdd,↓reduceIte,reduceCtorEq,Nat.reduceLT,forall_const,uj,az])|((with_reducible refine And.intro ?_ ?_); . first|trivial|omega|(simp;done)|(simp;omega))|((first|((with_reducible refine cN (t:= ?_) ?_ (λcZ=> ?_) (λcZ=> ?_));rotate_left; . rfl)|((with_reducible refine bt (t:= ?_) ?_ (λcZ=> ?_) (λcZ=> ?_));rotate_left; . rfl))<;>(have hn:=cZ;have az:=cZ)<;>(try simp only[decide_eq_true_eq,decide_eq_false_iff_not,beq_iff_eq,ne_eq,beq_eq_false_iff_ne]at hn)<;>(try(exfalso;omega))<;>(refine aL.of ?_))|(((with_reducible refine bp ?_ ?_ ?_); . rfl)<;>(refine aL.of ?_))))
 all_goals grind[bq]
theorem Pn:aF Tryz.prog 43 oE:=by
 refine aF.oU (ps:=[]) (hs:=[]) trivial trivial acf λl t _=> ?_
 (have az:=Bool.and_self;refine aL.of ?_;repeat' (first|((with_reducible refine aL.to ?_);try simp only[↓rP,rT,rU,aC,aw,cI,cS,bA,aI,aW,DR.val,jB,iq,hH,DV.aY,DV.one,alive,cellsOf,Nat.reduceEqDiff,Nat.reduceAdd,↓reduceIte,reduceCtorEq,Nat.reduceLT,forall_const,Po,az])|((with_reducible refine And.intro ?_ ?_); . first|trivial|omega|(simp;done)|(simp;omega))|((first|((with_reducible refine cN (t:= ?_) ?_ (λcZ=> ?_) (λcZ=> ?_));rotate_left; . rfl)|((with_reducible refine bt (t:= ?_) ?_ (λcZ=> ?_) (λcZ=> ?_));rotate_left; . rfl))<;>(have hn:=cZ;have az:=cZ)<;>(try simp only[decide_eq_true_eq,decide_eq_false_iff_not,beq_iff_eq,ne_eq,beq_eq_false_iff_ne]at hn)<;>(try(exfalso;omega))<;>(refine aL.of ?_))|(((with_reducible refine bp ?_ ?_ ?_); . rfl)<;>(refine aL.of ?_))))
 all_goals grind[bq]
def fS(t:Ty):Int:=if t.n<1 then 1 else if 8<t.n then 8 else t.n
def tc:List DV->Prop×DV:=bB tW λt=>(True,.int .i64 (fS t))
def yQ(t):=show tc [.agg (cK t)]=_ from aH qf _ _
theorem Dx:aF Tryz.prog 60 tc:=by
 refine aF.mo (ps:=[]) (hs:=[]) trivial trivial Fc λt _=> ?_
 (have az:=Bool.and_self;refine aL.of ?_;repeat' (first|((with_reducible refine aL.to ?_);try simp only[↓rP,rT,rU,aC,aw,cI,cS,bA,aI,aW,DR.val,jB,iq,hH,DV.aY,DV.one,alive,cellsOf,Nat.reduceEqDiff,Nat.reduceAdd,↓reduceIte,reduceCtorEq,forall_const,uk,az])|((with_reducible refine And.intro ?_ ?_); . first|trivial|omega|(simp;done)|(simp;omega))|((first|((with_reducible refine cN (t:= ?_) ?_ (λcZ=> ?_) (λcZ=> ?_));rotate_left; . rfl)|((with_reducible refine bt (t:= ?_) ?_ (λcZ=> ?_) (λcZ=> ?_));rotate_left; . rfl))<;>(have hn:=cZ;have az:=cZ)<;>(try simp only[decide_eq_true_eq,decide_eq_false_iff_not]at hn)<;>(try(exfalso;omega))<;>(refine aL.of ?_))|(((with_reducible refine bp ?_ ?_ ?_); . rfl)<;>(refine aL.of ?_))))
 all_goals grind[fS]
theorem acg:aF Tryz.prog 44 tc:=by
 refine aF.mo (ps:=[]) (hs:=[]) trivial trivial ach λt _=> ?_
 (have az:=Bool.and_self;refine aL.of ?_;repeat' (first|((with_reducible refine aL.to ?_);try simp only[↓rP,rT,rU,aC,aw,bA,aI,aW,DR.val,jB,iq,hH,DV.aY,DV.one,alive,cellsOf,Nat.reduceEqDiff,Nat.reduceAdd,↓reduceIte,reduceCtorEq,forall_const,Pp])|((with_reducible refine And.intro ?_ ?_); . first|trivial|omega|(simp;done)|(simp;omega))|(((with_reducible refine bp ?_ ?_ ?_); . rfl)<;>(refine aL.of ?_))))
 all_goals grind[fS]
def auU(l:List En):Prop:=∀x∈l,x.ct.length<=1000000000
theorem VC{l:List En}{j}(h:j<l.length):(l.map jQ).getD j []=jQ (l.getD j default):=by simp[h]
theorem aes{l:List En}{t:Ty}(h:bq l t=true)(hk:t.k=3):∃j:Nat,t.e=j/\j<l.length:=by simp only[bq,hk,if_true,Bool.and_eq_true,decide_eq_true_eq]at h;exact⟨t.e.toNat,by omega,by omega⟩
structure Prt where
 name:List UInt8
 ty:Ty
instance:Inhabited Prt:=⟨⟨[],default⟩⟩
structure Slt where
 path:List UInt8
 ty:Ty
 at_:Int
 ini:List Int
instance:Inhabited Slt:=⟨⟨[],default,0,[]⟩⟩
structure Img where
 en:List En
 ins:List Prt
 outs:List Prt
 slots:List Slt
 loc:List Int
 code:List In4
def ixF(p:Int->Bool)(l:List Int):Int:=if l.any p then(l.findIdx p:Nat)else-1
theorem arQ{p}{l:List Int}{k}(hk:k<l.length)(h:∀x∈l.take k,p x=false)(e0:p (l.getD k 0)=true):ixF p l=k:=by
 have hg:l.getD k 0=l[k]:=by simp[hk]
 have e:=hg▸e0;have h1:=List.any_eq_true.2 ⟨l[k],List.getElem_mem hk,e⟩;have h2:l.findIdx p=k:=by refine(List.findIdx_eq hk).2 ⟨e,λj hj=> ?_⟩;exact h _ (List.mem_take_iff_getElem.2 ⟨j,by omega,rfl⟩)
 simp[ixF,h1,h2]
theorem arR{p}{l}(h:∀x∈l,p x=false):ixF p l= -1:=by
 have h1:l.any p=false:=by rw[List.any_eq_false];intro x hx;simp[h x hx]
 simp[ixF,h1]
theorem arS(p)(l:List Int):decide (0<=ixF p l)=l.any p:=by
 unfold ixF;split
 ·rename_i h;rw[h];simp
 ·rename_i h;rw[Bool.not_eq_true]at h;rw[h];rfl
theorem Yo{p:Int->Bool}{l:List Int}{k:Nat}(hk:k<l.length)(h:∀x∈l.take k,p x=false)(e:p (l.getD k 0)=false):∀x∈l.take (k+1),p x=false:=by
 have hg:l.getD k 0=l[k]:=by simp[hk]
 rw[hg]at e;rw[List.take_add_one];intro x hx;rcases List.mem_append.1 hx with hx|hx
 ·exact h x hx
 ·simp[hk]at hx;rw[hx];exact e
def wP(l:List En)(t:Ty)(n:Int):Bool:=if t.k=2 then n==0||n==1 else t.k==1||(decide (0<=n)&&decide (n<(l.getD t.e.toNat default).ct.length))
def Be(l:List En)(t:Ty)(n:Int):Bool:=bq l t&&wP l t n
def Yp:List DV->Prop×DV:=eR lN tW eI λl t n=>(True,.bool (Be l t n))
def Yq(l:List En)(t)(n):=show Yp [.sl (l.map jQ),.agg (cK t),.int .i64 n]=_ from bz mr qf b6 _ _ _ _
theorem VD{l}{t:Ty}(h:bq l t=true):t.k=1\/t.k=2\/t.k=3:=by simp only[bq,Bool.and_eq_true,decide_eq_true_eq]at h;omega
theorem agB:aF Tryz.prog 61 Yp:=by
 refine aF.uR (ps:=[(59,oE)]) (hs:=[]) ⟨wK,trivial⟩ trivial Kk λl t n _=> ?_;have e1:=py l t;simp only[cK]at e1;by_cases q:bq l t=true;rotate_left
 ·(have az:=Bool.and_self;refine aL.of ?_;repeat' (first|((with_reducible refine aL.to ?_);try simp only[↓rP,rT,rU,eI,aC,aw,IX,bA,aI,aW,DR.val,jB,iq,hH,DV.aY,bh,bn,cn,bX,fy,bW,dE,DV.one,cellsOf,Nat.reduceEqDiff,Nat.reduceAdd,↓reduceIte,reduceCtorEq,Nat.reduceLeDiff,forall_const,jM,e1,q])|((with_reducible refine And.intro ?_ ?_); . first|trivial|omega|(simp;done)|(simp;omega))|(((with_reducible refine bp ?_ ?_ ?_); . rfl)<;>(refine aL.of ?_))))
  all_goals grind[Be]
 have hr:Be l t n=wP l t n:=by simp[Be,q]
 rw[hr];rcases VD q with k|k|k
 ·have k1:(t.k==1)=true:=by simp[k]
  have k2:(t.k==2)=false:=by simp[k]
  (have az:=Bool.and_self;refine aL.of ?_;repeat' (first|((with_reducible refine aL.to ?_);try simp only[↓rP,rT,rU,eI,aC,aw,cI,cS,IX,bA,aI,aW,DR.val,jB,iq,hH,DV.aY,bh,bn,cn,bX,fy,bW,dE,DV.one,alive,cellsOf,Nat.reduceEqDiff,Nat.reduceAdd,↓reduceIte,reduceCtorEq,Nat.reduceLeDiff,Nat.reduceLT,forall_const,jM,e1,q,k1,k2])|((with_reducible refine And.intro ?_ ?_); . first|trivial|omega|(simp;done)|(simp;omega))|(((with_reducible refine bp ?_ ?_ ?_); . rfl)<;>(refine aL.of ?_))))
  all_goals grind[wP]
 ·have k2:(t.k==2)=true:=by simp[k]
  (have az:=Bool.and_self;refine aL.of ?_;repeat' (first|((with_reducible refine aL.to ?_);try simp only[↓rP,rT,rU,eI,aC,aw,cI,cS,IX,bA,aI,aW,DR.val,jB,iq,hH,DV.aY,bh,bn,cn,bX,fy,bW,dE,DV.one,alive,cellsOf,Nat.reduceEqDiff,Nat.reduceAdd,↓reduceIte,reduceCtorEq,Nat.reduceLeDiff,Nat.reduceLT,forall_const,jM,e1,q,k2,az])|((with_reducible refine And.intro ?_ ?_); . first|trivial|omega|(simp;done)|(simp;omega))|((first|((with_reducible refine cN (t:= ?_) ?_ (λcZ=> ?_) (λcZ=> ?_));rotate_left; . rfl)|((with_reducible refine bt (t:= ?_) ?_ (λcZ=> ?_) (λcZ=> ?_));rotate_left; . rfl))<;>(have hn:=cZ;have az:=cZ)<;>(try simp only[beq_iff_eq,ne_eq,beq_eq_false_iff_ne]at hn)<;>(try(exfalso;omega))<;>(refine aL.of ?_))|(((with_reducible refine bp ?_ ?_ ?_); . rfl)<;>(refine aL.of ?_))))
  all_goals grind[wP]
 ·have k1:(t.k==1)=false:=by simp[k]
  have k2:(t.k==2)=false:=by simp[k]
  obtain⟨i,hi,li⟩:=aes q k;have g1:=VC li;simp only[jQ]at g1;have hv:wP l t n=(decide (0<=n)&&decide (n<(l.getD i default).ct.length)):=by unfold wP;rw[if_neg (by omega),k1,hi];rfl
  rw[hv];rw[hi]at e1;generalize l.getD i default=x at*
  (have az:=Bool.and_self;refine aL.of ?_;repeat' (first|((with_reducible refine aL.to ?_);try simp only[↓rP,rT,rU,eI,aC,aw,cI,cS,IX,bA,aI,aW,DR.val,jB,iq,hH,DV.aY,bh,bn,cn,bX,fy,bW,dE,DV.one,alive,cellsOf,Nat.reduceEqDiff,Nat.reduceAdd,↓reduceIte,reduceCtorEq,Nat.reduceLeDiff,Nat.reduceLT,forall_const,jM,aj,e1,q,k1,k2,hi,li,g1,az])|((with_reducible refine And.intro ?_ ?_); . first|trivial|omega|(simp;done)|(simp;omega))|((first|((with_reducible refine cN (t:= ?_) ?_ (λcZ=> ?_) (λcZ=> ?_));rotate_left; . rfl)|((with_reducible refine bt (t:= ?_) ?_ (λcZ=> ?_) (λcZ=> ?_));rotate_left; . rfl))<;>(have hn:=cZ;have az:=cZ)<;>(try simp only[decide_eq_true_eq,decide_eq_false_iff_not]at hn)<;>(try(exfalso;omega))<;>(refine aL.of ?_))|(((with_reducible refine bp ?_ ?_ ?_); . rfl)<;>(refine aL.of ?_))))
  all_goals grind
theorem arT:aF Tryz.prog 42 Yp:=by
 refine aF.uR (ps:=[(43,oE)]) (hs:=[]) ⟨Pn,trivial⟩ trivial agC λl t n _=> ?_;have e1:=py l t;simp only[cK]at e1;by_cases q:bq l t=true;rotate_left
 ·(have az:=Bool.and_self;refine aL.of ?_;repeat' (first|((with_reducible refine aL.to ?_);try simp only[↓rP,rT,rU,eI,aC,aw,IX,bA,aI,aW,DR.val,jB,iq,hH,DV.aY,bh,bn,cn,bX,fy,bW,dE,DV.one,cellsOf,Nat.reduceEqDiff,Nat.reduceAdd,↓reduceIte,reduceCtorEq,Nat.reduceLeDiff,forall_const,xP,e1,q])|((with_reducible refine And.intro ?_ ?_); . first|trivial|omega|(simp;done)|(simp;omega))|(((with_reducible refine bp ?_ ?_ ?_); . rfl)<;>(refine aL.of ?_))))
  all_goals grind[Be]
 have hr:Be l t n=wP l t n:=by simp[Be,q]
 rw[hr];rcases VD q with k|k|k
 ·have k3:(t.k==3)=false:=by simp[k]
  have k2:(t.k==2)=false:=by simp[k]
  (have az:=Bool.and_self;refine aL.of ?_;repeat' (first|((with_reducible refine aL.to ?_);try simp only[↓rP,rT,rU,eI,aC,aw,cI,cS,IX,bA,aI,aW,DR.val,jB,iq,hH,DV.aY,bh,bn,cn,bX,fy,bW,dE,DV.one,alive,cellsOf,Nat.reduceEqDiff,Nat.reduceAdd,↓reduceIte,reduceCtorEq,Nat.reduceLeDiff,Nat.reduceLT,forall_const,xP,e1,q,k2,k3])|((with_reducible refine And.intro ?_ ?_); . first|trivial|omega|(simp;done)|(simp;omega))|(((with_reducible refine bp ?_ ?_ ?_); . rfl)<;>(refine aL.of ?_))))
  all_goals grind[wP]
 ·have k2:(t.k==2)=true:=by simp[k]
  (have az:=Bool.and_self;refine aL.of ?_;repeat' (first|((with_reducible refine aL.to ?_);try simp only[↓rP,rT,rU,eI,aC,aw,cI,cS,IX,bA,aI,aW,DR.val,jB,iq,hH,DV.aY,bh,bn,cn,bX,fy,bW,dE,DV.one,alive,cellsOf,Nat.reduceEqDiff,Nat.reduceAdd,↓reduceIte,reduceCtorEq,Nat.reduceLeDiff,Nat.reduceLT,forall_const,xP,e1,q,k2,az])|((with_reducible refine And.intro ?_ ?_); . first|trivial|omega|(simp;done)|(simp;omega))|((first|((with_reducible refine cN (t:= ?_) ?_ (λcZ=> ?_) (λcZ=> ?_));rotate_left; . rfl)|((with_reducible refine bt (t:= ?_) ?_ (λcZ=> ?_) (λcZ=> ?_));rotate_left; . rfl))<;>(have hn:=cZ;have az:=cZ)<;>(try simp only[beq_iff_eq,ne_eq,beq_eq_false_iff_ne]at hn)<;>(try(exfalso;omega))<;>(refine aL.of ?_))|(((with_reducible refine bp ?_ ?_ ?_); . rfl)<;>(refine aL.of ?_))))
  all_goals grind[wP]
 ·have k1:(t.k==1)=false:=by simp[k]
  have k2:(t.k==2)=false:=by simp[k]
  have k3:(t.k==3)=true:=by simp[k]
  obtain⟨i,hi,li⟩:=aes q k;have g1:=VC li;simp only[jQ]at g1;have hv:wP l t n=(decide (0<=n)&&decide (n<(l.getD i default).ct.length)):=by unfold wP;rw[if_neg (by omega),k1,hi];rfl
  rw[hv];rw[hi]at e1;generalize l.getD i default=x at*
  (have az:=Bool.and_self;refine aL.of ?_;repeat' (first|((with_reducible refine aL.to ?_);try simp only[↓rP,rT,rU,eI,aC,aw,cI,cS,IX,bA,aI,aW,DR.val,jB,iq,hH,DV.aY,bh,bn,cn,bX,fy,bW,dE,DV.one,alive,cellsOf,Nat.reduceEqDiff,Nat.reduceAdd,↓reduceIte,reduceCtorEq,Nat.reduceLeDiff,Nat.reduceLT,forall_const,xP,aj,e1,q,k2,k3,hi,li,g1,az])|((with_reducible refine And.intro ?_ ?_); . first|trivial|omega|(simp;done)|(simp;omega))|((first|((with_reducible refine cN (t:= ?_) ?_ (λcZ=> ?_) (λcZ=> ?_));rotate_left; . rfl)|((with_reducible refine bt (t:= ?_) ?_ (λcZ=> ?_) (λcZ=> ?_));rotate_left; . rfl))<;>(have hn:=cZ;have az:=cZ)<;>(try simp only[decide_eq_true_eq,decide_eq_false_iff_not]at hn)<;>(try(exfalso;omega))<;>(refine aL.of ?_))|(((with_reducible refine bp ?_ ?_ ?_); . rfl)<;>(refine aL.of ?_))))
  all_goals grind
@[reducible] def aof(x:List En×Ty):DV:= .clo 41 [.ref [.sl (x.1.map jQ)],.ref (cK x.2)]
theorem aet:rJ aof:=λx y h=>by obtain⟨x1,x2⟩:=x;obtain⟨y1,y2⟩:=y;simp only[aof,DV.clo.injEq,true_and]at h;injection h with h1 h2;injection h2 with h2 _;injection h1 with h1;injection h1 with h1 _;injection h1 with h1;injection h2 with h2;rw[map_inj vh _ _ h1,Nf _ _ h2]
@[reducible] def apY(l:List En):DV:= .ref [.sl (l.map jQ)]
theorem akq:rJ apY:=λ_ _ h=>by injection h with h;injection h with h _;injection h with h;exact map_inj vh _ _ h
@[reducible] def auV(t:Ty):DV:= .ref (cK t)
theorem aog:rJ auV:=λ_ _ h=>by injection h with h;exact Nf _ _ h
def aci:List DV->Prop×DV:=eR eI apY auV λn l t=>(True,.bool (!Be l t n))
def agD(n)(l:List En)(t):=show aci [.int .i64 n,.ref [.sl (l.map jQ)],.ref (cK t)]=_ from bz b6 akq aog _ _ _ _
theorem aoh:aF Tryz.prog 41 aci:=by
 refine aF.uR (ps:=[(42,Yp)]) (hs:=[]) ⟨arT,trivial⟩ trivial RO λn l t _=> ?_;have e1:=Yq l t n;simp only[cK]at e1
 (have az:=Bool.and_self;refine aL.of ?_;repeat' (first|((with_reducible refine aL.to ?_);try simp only[↓rP,rT,rU,eI,aC,aw,IX,bA,aI,aW,DR.val,jB,iq,hH,DV.aY,bh,bn,cn,bX,fy,bW,dE,Nat.reduceEqDiff,Nat.reduceAdd,↓reduceIte,reduceCtorEq,Nat.reduceLeDiff,Dy,e1])|((with_reducible refine And.intro ?_ ?_); . first|trivial|omega|(simp;done)|(simp;omega))|(((with_reducible refine bp ?_ ?_ ?_); . rfl)<;>(refine aL.of ?_))))
def Yr(x:List En×Ty)(n:Int):Bool:= !Be x.1 x.2 n
def VE:List DV->Prop×DV:=b5 m6 aof λl x=>(l.length<=1000000000,.int .i64 (ixF (Yr x) l))
def acj(l:List Int)(a:List En)(t):=show VE [.sl (cX l),.clo 41 [.ref [.sl (a.map jQ)],.ref (cK t)]]=_ from aO mq aet _ l (a,t)
theorem akr:aF Tryz.prog 71 VE:=by
 refine aF.oU (ps:=[(41,aci)]) (hs:=[]) ⟨aoh,trivial⟩ trivial qo λl x h=> ?_;obtain⟨a,t⟩:=x
 (have az:=Bool.and_self;refine aL.of ?_;repeat' (first|((with_reducible refine aL.to ?_);try simp only[↓rP,rT,aC,aw,↓reduceIte,reduceCtorEq,Int.reduceNeg,jN,m6,aV])|((with_reducible refine And.intro ?_ ?_); . first|trivial|omega|(simp;done)|(simp;omega))|(((with_reducible refine bp ?_ ?_ ?_); . rfl)<;>(refine aL.of ?_))))
 refine gT (λk:Nat=>⟨[(0,.sl (cX l)),(1,.clo 41 [.ref [.sl (a.map jQ)],.ref (cK t)]),(7,.int .i64 l.length),(8,.int .i64 k)],[]⟩) (λk=>k<=l.length/\∀x∈l.take k,Yr (a,t) x=false) (λk=>l.length-k) 0 (by exact Nat.zero_le _) ?_ ⟨Nat.zero_le _,by simp⟩ λk hk=> ?_
 ·simp only[dK,List.map_cons,List.map_nil,cw,Nk.get_nil,Nat.reduceEqDiff,↓reduceIte,Nat.succ_ne_self,DV.cut,DV.rR,List.take_nil,DV.HH,Bool.and_true,reduceCtorEq];rfl
 obtain⟨hk,ht⟩:=hk;have hl:l.length<=1000000000:=h;by_cases d:k<l.length
 ·have w:IntKind.i64.wrap ((k:Int)+1)=((k+1:Nat):Int):=by rw[ig (by omega)];omega
  have e1:=Ys d;have e2:=agD (l.getD k 0) a t;simp only[cK]at e2
  (have az:=Bool.and_self;refine aL.of ?_;repeat' (first|((with_reducible refine aL.to ?_);try simp only[↓rP,rT,rU,aC,aw,cI,cS,bA,aI,aW,DR.val,jB,iq,hH,DV.aY,bh,bn,cn,bX,bW,dE,Nat.reduceEqDiff,↓reduceIte,reduceCtorEq,Int.reduceNeg,aV,e1,e2,d,w,az])|((with_reducible refine And.intro ?_ ?_); . first|trivial|omega|(simp;done)|(simp;omega))|((first|((with_reducible refine cN (t:= ?_) ?_ (λcZ=> ?_) (λcZ=> ?_));rotate_left; . rfl)|((with_reducible refine bt (t:= ?_) ?_ (λcZ=> ?_) (λcZ=> ?_));rotate_left; . rfl))<;>(have hn:=cZ;have az:=cZ)<;>(try simp only[Bool.not_eq_true',Bool.not_eq_false']at hn)<;>(try(exfalso;omega))<;>(refine aL.of ?_))|(((with_reducible refine bp ?_ ?_ ?_); . rfl)<;>(refine aL.of ?_))))
  ·rw[arQ d ht (by simp_all [Yr])]
  ·refine⟨k+1,?_,⟨by omega,Yo d ht (by simp_all [Yr])⟩,by omega⟩;simp only[dK,List.map_cons,List.map_nil,cw,Nk.get_nil,Nat.reduceEqDiff,↓reduceIte,Nat.succ_ne_self,DV.cut,DV.rR,List.take_nil,DV.HH,Bool.and_true,reduceCtorEq]
 ·have e:ixF (Yr (a,t)) l= -1:=arR (by
   have si:k=l.length:=by omega
   rw[si,List.take_length]at ht;exact ht)
  (have az:=Bool.and_self;refine aL.of ?_;repeat' (first|((with_reducible refine aL.to ?_);try simp only[↓rP,rT,rU,aC,aw,cI,cS,aW,DR.val,jB,iq,hH,DV.aY,Nat.reduceEqDiff,↓reduceIte,reduceCtorEq,Int.reduceNeg,d,e])|((with_reducible refine And.intro ?_ ?_); . first|trivial|omega|(simp;done)|(simp;omega))|(((with_reducible refine bp ?_ ?_ ?_); . rfl)<;>(refine aL.of ?_))))
def Pq:List DV->Prop×DV:=b5 m6 aof λl x=>(l.length<=1000000000,.bool (l.any (Yr x)))
def Yt(l:List Int)(a:List En)(t):=show Pq [.sl (cX l),.clo 41 [.ref [.sl (a.map jQ)],.ref (cK t)]]=_ from aO mq aet _ l (a,t)
theorem agE:aF Tryz.prog 45 Pq:=by
 refine aF.oU (ps:=[(71,VE)]) (hs:=[]) ⟨akr,trivial⟩ trivial oQ λl x h=> ?_;obtain⟨a,t⟩:=x;have e:=acj l a t;have e2:=arS (Yr (a,t)) l;rw[eq_true (show l.length<=1000000000 from h)]at e;simp only[cK]at e
 (have az:=Bool.and_self;refine aL.of ?_;repeat' (first|((with_reducible refine aL.to ?_);try simp only[↓rP,rT,rU,aC,aw,cI,cS,aW,DR.val,jB,iq,hH,DV.aY,bh,bn,cn,bX,kI,uW,bW,dE,Nat.reduceEqDiff,↓reduceIte,reduceCtorEq,iS,m6,e,e2])|((with_reducible refine And.intro ?_ ?_); . first|trivial|omega|(simp;done)|(simp;omega))|(((with_reducible refine bp ?_ ?_ ?_); . rfl)<;>(refine aL.of ?_))))
def lM(l:List En)(t:Ty)(v:List Int):Bool:=bq l t&&(v.length:Int)==fS t&&v.all (Be l t)
def tF:List DV->Prop×DV:=eR lN tW m6 λl t v=>(v.length<=1000000000,.bool (lM l t v))
def u6(l:List En)(t)(v:List Int):=show tF [.sl (l.map jQ),.agg (cK t),.sl (cX v)]=_ from bz mr qf mq _ _ _ _
theorem aks(l)(t)(v:List Int):v.any (Yr (l,t))= !(v.all (Be l t)):=by rw[List.not_all_eq_any_not];rfl
theorem Sn:aF Tryz.prog 25 tF:=by
 refine aF.uR (ps:=[(43,oE),(44,tc),(45,Pq)]) (hs:=[]) ⟨Pn,acg,agE,trivial⟩ trivial Yu λl t v h=> ?_;have e1:=py l t;have e2:=yQ t;have e3:=Yt v l t;rw[eq_true (show v.length<=1000000000 from h),aks]at e3;simp only[cK]at e1 e2 e3
 (have az:=Bool.and_self;refine aL.of ?_;repeat' (first|((with_reducible refine aL.to ?_);try simp only[↓rP,rT,rU,aC,aw,cI,cS,IX,bA,aI,aW,DR.val,jB,iq,hH,DV.aY,bh,bn,cn,bX,kI,uW,fy,bW,dE,DV.one,cellsOf,Nat.reduceEqDiff,Nat.reduceAdd,↓reduceIte,reduceCtorEq,Nat.reduceLeDiff,forall_const,Ly,aV,e1,e2,e3,az])|((with_reducible refine And.intro ?_ ?_); . first|trivial|omega|(simp;done)|(simp;omega))|((first|((with_reducible refine cN (t:= ?_) ?_ (λcZ=> ?_) (λcZ=> ?_));rotate_left; . rfl)|((with_reducible refine bt (t:= ?_) ?_ (λcZ=> ?_) (λcZ=> ?_));rotate_left; . rfl))<;>(have hn:=cZ;have az:=cZ)<;>(try simp only[beq_iff_eq,ne_eq,beq_eq_false_iff_ne]at hn)<;>(try(exfalso;omega))<;>(refine aL.of ?_))|(((with_reducible refine bp ?_ ?_ ?_); . rfl)<;>(refine aL.of ?_))))
 all_goals grind[lM]
theorem Gt:aF Tryz.prog 33 tF:=by
 refine aF.uR (ps:=[(59,oE),(60,tc),(61,Yp)]) (hs:=[]) ⟨wK,Dx,agB,trivial⟩ trivial Fe λl t v h=> ?_;have e1:=py l t;have e2:=yQ t;simp only[cK]at e1 e2;by_cases q:bq l t=true/\(v.length:Int)=fS t;rotate_left
 ·(have az:=Bool.and_self;refine aL.of ?_;repeat' (first|((with_reducible refine aL.to ?_);try simp only[↓rP,rT,rU,aC,aw,cI,cS,IX,bA,aI,aW,DR.val,jB,iq,hH,DV.aY,bh,bn,cn,bX,fy,bW,dE,DV.one,cellsOf,Nat.reduceEqDiff,Nat.reduceAdd,↓reduceIte,reduceCtorEq,Nat.reduceLeDiff,forall_const,nZ,m6,aV,e1,e2,az])|((with_reducible refine And.intro ?_ ?_); . first|trivial|omega|(simp;done)|(simp;omega))|((first|((with_reducible refine cN (t:= ?_) ?_ (λcZ=> ?_) (λcZ=> ?_));rotate_left; . rfl)|((with_reducible refine bt (t:= ?_) ?_ (λcZ=> ?_) (λcZ=> ?_));rotate_left; . rfl))<;>(have hn:=cZ;have az:=cZ)<;>(try simp only[bne_iff_ne,ne_eq,bne_eq_false_iff_eq,Bool.not_eq_true',Bool.not_eq_false']at hn)<;>(try(exfalso;omega))<;>(refine aL.of ?_))|(((with_reducible refine bp ?_ ?_ ?_); . rfl)<;>(refine aL.of ?_))))
  all_goals grind[lM]
 obtain⟨q1,q2⟩:=q;have n1:((v.length:Int) !=fS t)=false:=by simp[q2]
 have hr:lM l t v=v.all (Be l t):=by simp[lM,q1,q2]
 (have az:=Bool.and_self;refine aL.of ?_;repeat' (first|((with_reducible refine aL.to ?_);try simp only[↓rP,rT,rU,aC,aw,cI,cS,IX,bA,aI,DV.aY,bh,bn,cn,bX,fy,bW,dE,DV.one,cellsOf,Nat.reduceEqDiff,Nat.reduceAdd,↓reduceIte,reduceCtorEq,Nat.reduceLeDiff,forall_const,nZ,m6,aV,e1,e2,q1,n1])|((with_reducible refine And.intro ?_ ?_); . first|trivial|omega|(simp;done)|(simp;omega))|(((with_reducible refine bp ?_ ?_ ?_); . rfl)<;>(refine aL.of ?_))))
 refine gT (λk:Nat=>⟨[(0,.sl (l.map jQ)),(2,.sl (cX v)),(4,.ptr 0 1 0 0),(7,.int .i64 k)],[⟨.loc,3,[cK t]⟩]⟩) (λk=>k<=v.length/\∀x∈v.take k,(λn=> !Be l t n) x=false) (λk=>v.length-k) 0 (by exact Nat.zero_le _) ?_ ⟨Nat.zero_le _,by simp⟩ λk hk=> ?_
 ·simp only[dK,List.map_cons,List.map_nil,cw,Nk.get_nil,Nat.reduceEqDiff,↓reduceIte,Nat.succ_ne_self,DV.cut,DV.rR,ak.cut,List.take_nil,reduceCtorEq,Nat.zero_lt_one,decide_true,List.take_succ_cons];rfl
 obtain⟨hk,ht⟩:=hk;have hl:v.length<=1000000000:=h;by_cases d:k<v.length
 ·have w:IntKind.i64.wrap ((k:Int)+1)=((k+1:Nat):Int):=by rw[ig (by omega)];omega
  have e3:=Ys d;have e4:=Yq l t (v.getD k 0);simp only[cK]at e4
  (have az:=Bool.and_self;refine aL.of ?_;repeat' (first|((with_reducible refine aL.to ?_);try simp only[↓rP,rT,rU,aC,aw,cI,cS,IX,bA,aI,aW,DR.val,jB,iq,hH,DV.aY,bh,bn,cn,bX,fy,bW,dE,Nat.reduceEqDiff,Nat.reduceAdd,↓reduceIte,reduceCtorEq,Nat.reduceLeDiff,aV,e3,e4,d,w,az])|((with_reducible refine And.intro ?_ ?_); . first|trivial|omega|(simp;done)|(simp;omega))|((first|((with_reducible refine cN (t:= ?_) ?_ (λcZ=> ?_) (λcZ=> ?_));rotate_left; . rfl)|((with_reducible refine bt (t:= ?_) ?_ (λcZ=> ?_) (λcZ=> ?_));rotate_left; . rfl))<;>(have hn:=cZ;have az:=cZ)<;>(try simp only[Bool.not_eq_true',Bool.not_eq_false']at hn)<;>(try(exfalso;omega))<;>(refine aL.of ?_))|(((with_reducible refine bp ?_ ?_ ?_); . rfl)<;>(refine aL.of ?_))))
  ·have:v.all (Be l t)=false:=by rw[List.all_eq_false];exact⟨v[k],List.getElem_mem d,by simp_all⟩
   simp[hr,this]
  ·refine⟨k+1,?_,⟨by omega,Yo d ht (by simp_all)⟩,by omega⟩;simp only[dK,List.map_cons,List.map_nil,cw,Nk.get_nil,Nat.reduceEqDiff,↓reduceIte,DV.cut,DV.rR,ak.cut,List.take_nil,reduceCtorEq,Nat.zero_lt_one,decide_true,List.take_succ_cons]
 ·have si:k=v.length:=by omega
  have hc:v.all (Be l t)=true:=by rw[si,List.take_length]at ht;rw[List.all_eq_true];intro x hx;simpa using ht x hx
  rw[hc]at hr
  (have az:=Bool.and_self;refine aL.of ?_;repeat' (first|((with_reducible refine aL.to ?_);try simp only[↓rP,rT,rU,aC,aw,cI,cS,aW,DR.val,jB,iq,hH,DV.aY,Nat.reduceEqDiff,↓reduceIte,reduceCtorEq,aV,d,hr])|((with_reducible refine And.intro ?_ ?_); . first|trivial|omega|(simp;done)|(simp;omega))|(((with_reducible refine bp ?_ ?_ ?_); . rfl)<;>(refine aL.of ?_))))
theorem Kl(t):1<=fS t/\fS t<=8:=by
 unfold fS;by_cases h1:t.n<1
 ·rw[if_pos h1];omega
 ·rw[if_neg h1];by_cases h2:8<t.n
  ·rw[if_pos h2];omega
  ·rw[if_neg h2];omega
def akt(l:List (List UInt8)):Bool:=l.all λs=>decide (s.length<=100)
def wI(x:En):Bool:=decide (x.ct.length<=12)&&decide (x.name.length<=100)&&akt x.ct
def ub(l:List En):Bool:=decide (l.length<=8)&&l.all wI
def Vt:List DV->Prop×DV:=bB lN λl=>(True,.bool (ub l))
def yM(l:List En):=show Vt [.sl (l.map jQ)]=_ from aH mr _ _
theorem akf:aF Tryz.prog 36 Vt:=by
 refine aF.mo (ps:=[]) (hs:=[]) trivial trivial Ff λl _=> ?_;by_cases q:l.length<=8;rotate_left
 ·have n1:(8:Int)<(l.length:Int):=by omega
  have hr:ub l=false:=by simp[ub];intro h;omega
  (have az:=Bool.and_self;refine aL.of ?_;repeat' (first|((with_reducible refine aL.to ?_);try simp only[↓rP,rT,rU,aC,aw,cI,cS,aW,DR.val,jB,iq,hH,DV.aY,↓reduceIte,reduceCtorEq,n8,n1,hr])|((with_reducible refine And.intro ?_ ?_); . first|trivial|omega|(simp;done)|(simp;omega))|(((with_reducible refine bp ?_ ?_ ?_); . rfl)<;>(refine aL.of ?_))))
 have n1:¬(8:Int)<(l.length:Int):=by omega
 have hr:ub l=l.all wI:=by simp[ub,q]
 (have az:=Bool.and_self;refine aL.of ?_;repeat' (first|((with_reducible refine aL.to ?_);try simp only[↓rP,rT,rU,aC,aw,cI,cS,↓reduceIte,reduceCtorEq,n8,n1])|((with_reducible refine And.intro ?_ ?_); . first|trivial|omega|(simp;done)|(simp;omega))|(((with_reducible refine bp ?_ ?_ ?_); . rfl)<;>(refine aL.of ?_))))
 refine gT (λk:Nat=>⟨[(0,.sl (l.map jQ)),(3,.int .i64 k)],[]⟩) (λk=>k<=l.length/\∀x∈l.take k,wI x=true) (λk=>l.length-k) 0 (by exact Nat.zero_le _) ?_ ⟨Nat.zero_le _,by simp⟩ λk hk=> ?_
 ·simp only[dK,List.map_cons,List.map_nil,cw,Nk.get_nil,↓reduceIte,DV.cut,DV.rR,List.take_nil,reduceCtorEq];rfl
 obtain⟨hk,ht⟩:=hk;by_cases d:k<l.length;rotate_left
 ·have e:=Yv d ht;rw[e]at hr
  (have az:=Bool.and_self;refine aL.of ?_;repeat' (first|((with_reducible refine aL.to ?_);try simp only[↓rP,rT,rU,aC,aw,cI,cS,aW,DR.val,jB,iq,hH,DV.aY,Nat.reduceEqDiff,↓reduceIte,reduceCtorEq,d,hr])|((with_reducible refine And.intro ?_ ?_); . first|trivial|omega|(simp;done)|(simp;omega))|(((with_reducible refine bp ?_ ?_ ?_); . rfl)<;>(refine aL.of ?_))))
 have w:IntKind.i64.wrap ((k:Int)+1)=((k+1:Nat):Int):=by rw[ig (by omega)];omega
 have e1:=VC d;have n2:= @aeu _ wI l default k d;have n3:= @Yw _ wI l default k d ht;generalize l.getD k default=x at*;simp only[jQ]at e1;by_cases c:x.ct.length<=12/\x.name.length<=100;rotate_left
 ·have:=n2 (by simp only[wI];grind);rw[this]at hr
  (have az:=Bool.and_self;refine aL.of ?_;repeat' (first|((with_reducible refine aL.to ?_);try simp only[↓rP,rT,rU,aC,aw,cI,cS,bA,aI,aW,DR.val,jB,iq,hH,DV.aY,Nat.reduceEqDiff,Nat.reduceAdd,↓reduceIte,reduceCtorEq,Nat.reduceLT,aj,e1,d,hr,az])|((with_reducible refine And.intro ?_ ?_); . first|trivial|omega|(simp;done)|(simp;omega))|((first|((with_reducible refine cN (t:= ?_) ?_ (λcZ=> ?_) (λcZ=> ?_));rotate_left; . rfl)|((with_reducible refine bt (t:= ?_) ?_ (λcZ=> ?_) (λcZ=> ?_));rotate_left; . rfl))<;>(have hn:=cZ;have az:=cZ)<;>(try simp only[decide_eq_true_eq,decide_eq_false_iff_not]at hn)<;>(try(exfalso;omega))<;>(refine aL.of ?_))|(((with_reducible refine bp ?_ ?_ ?_); . rfl)<;>(refine aL.of ?_))))
  all_goals(exfalso;omega)
 obtain⟨c1,c2⟩:=c;have m1:¬(12:Int)<(x.ct.length:Int):=by omega
 have m2:¬(100:Int)<(x.name.length:Int):=by omega
 have hx:wI x=akt x.ct:=by simp[wI,c1,c2]
 (have az:=Bool.and_self;refine aL.of ?_;repeat' (first|((with_reducible refine aL.to ?_);try simp only[↓rP,rT,rU,aC,aw,cI,cS,bA,aI,Nat.reduceEqDiff,Nat.reduceAdd,↓reduceIte,reduceCtorEq,Nat.reduceLT,aj,e1,d,m1,m2])|((with_reducible refine And.intro ?_ ?_); . first|trivial|omega|(simp;done)|(simp;omega))|(((with_reducible refine bp ?_ ?_ ?_); . rfl)<;>(refine aL.of ?_))))
 refine gT (λj:Nat=>⟨[(0,.sl (l.map jQ)),(3,.int .i64 k),(4,.int .i64 j)],[]⟩) (λj=>j<=x.ct.length/\∀s∈x.ct.take j,(λs:List UInt8=>decide (s.length<=100)) s=true) (λj=>x.ct.length-j) 0 (by exact Nat.zero_le _) ?_ ⟨Nat.zero_le _,by simp⟩ λj hj=> ?_
 ·simp only[dK,List.map_cons,List.map_nil,cw,Nk.get_nil,Nat.reduceEqDiff,↓reduceIte,DV.cut,DV.rR,List.take_nil,reduceCtorEq];rfl
 obtain⟨hj,hs⟩:=hj;by_cases dj:j<x.ct.length;rotate_left
 ·have e:=Yv dj hs;have:=n3 (by rw[hx];exact e)
  (have az:=Bool.and_self;refine aL.of ?_;repeat' (first|((with_reducible refine aL.to ?_);try simp only[↓rP,rT,rU,aC,aw,cI,cS,bA,aI,Nat.reduceEqDiff,Nat.reduceAdd,↓reduceIte,reduceCtorEq,aj,e1,d,dj,w])|((with_reducible refine And.intro ?_ ?_); . first|trivial|omega|(simp;done)|(simp;omega))|(((with_reducible refine bp ?_ ?_ ?_); . rfl)<;>(refine aL.of ?_))))
  refine⟨k+1,?_,⟨by omega,this⟩,by omega⟩;simp only[dK,List.map_cons,List.map_nil,cw,Nk.get_nil,↓reduceIte,DV.cut,DV.rR,List.take_nil,reduceCtorEq]
 have wj:IntKind.i64.wrap ((j:Int)+1)=((j+1:Nat):Int):=by rw[ig (by omega)];omega
 have e2:=Bf dj;have n4:= @aeu _ (λs:List UInt8=>decide (s.length<=100)) x.ct [] j dj;have n5:= @Yw _ (λs:List UInt8=>decide (s.length<=100)) x.ct [] j dj hs;generalize x.ct.getD j []=y at*
 (have az:=Bool.and_self;refine aL.of ?_;repeat' (first|((with_reducible refine aL.to ?_);try simp only[↓rP,rT,rU,aC,aw,cI,cS,bA,aI,aW,DR.val,jB,iq,hH,DV.aY,Nat.reduceEqDiff,Nat.reduceAdd,↓reduceIte,reduceCtorEq,aj,e1,e2,d,dj,wj,az])|((with_reducible refine And.intro ?_ ?_); . first|trivial|omega|(simp;done)|(simp;omega))|((first|((with_reducible refine cN (t:= ?_) ?_ (λcZ=> ?_) (λcZ=> ?_));rotate_left; . rfl)|((with_reducible refine bt (t:= ?_) ?_ (λcZ=> ?_) (λcZ=> ?_));rotate_left; . rfl))<;>(have hn:=cZ;have az:=cZ)<;>(try simp only[decide_eq_true_eq,decide_eq_false_iff_not]at hn)<;>(try(exfalso;omega))<;>(refine aL.of ?_))|(((with_reducible refine bp ?_ ?_ ?_); . rfl)<;>(refine aL.of ?_))))
 all_goals first
  |(have:=n2 (by rw[hx];exact n4 (by simp only[decide_eq_false_iff_not];omega))
    simp only[hr,this];done)
  |(refine⟨j+1,?_,⟨by omega,λs um=>of_decide_eq_true (n5 (by simp only[decide_eq_true_eq];omega) s um)⟩,by omega⟩
    simp only[dK,List.map_cons,List.map_nil,cw,Nk.get_nil,Nat.reduceEqDiff,↓reduceIte,DV.cut,DV.rR,List.take_nil,reduceCtorEq])
end
end Go.Proofs.YtcokmopocppmiaaGreat

/- Programs: types: the walk (16), its small functions. -/
import Derived.Test.YtldnkkkooabaeaaGreatPgC
set_option maxHeartbeats 1000000
set_option linter.all false
set_option maxRecDepth 20000
namespace Go.Proofs.YtldnkkkooabaeaaGreat
open Go.Nk
def opt(x:Ty×Bool):Option Ty:=if x.2 then some x.1 else none
def lH(e:Ex)(t:List Ty):Ty×Bool:=
 if e.kind=5 then xb e.op (t.getD 0 default)
 else if e.kind=6 then dV e.op (t.getD 0 default) (t.getD 1 default)
 else if e.kind=7 then(t.getD 1 default,lF (t.getD 0 default)&&decide (t.getD 1 default=t.getD 2 default))
 else if e.kind=14 then(⟨(t.getD 0 default).k,(t.getD 0 default).e,t.length⟩,Jx t&&decide ((t.getD 0 default).n=0))
 else if e.kind=15 then(F6 (t.getD 0 default),decide (0<(t.getD 0 default).n)&&uM (t.getD 1 default))
 else(t.getD 0 default,decide (0<(t.getD 0 default).n)&&uM (t.getD 1 default)&&decide (t.getD 2 default=F6 (t.getD 0 default)))
theorem afM(e:Ex)(t:List Ty):tZ e t=opt (lH e t):=by
 unfold tZ lH opt;repeat' split
 all_goals simp_all
def nk(p:fc)(node:Nat)(e:Ex)(t:List Ty):Ty×Bool:=
 if e.kind=9 then(t.getD 0 default,decide (t.getD 0 default=t.getD 1 default))
 else if e.kind=10 then(t.getD 0 default,true)
 else if e.kind=11 then(t.getD 0 default,(match fv (nodeAt p node) e.name with
  |some d=>nP p.en (e.arms.getD 0 [])&&decide ((gH p.en (e.arms.getD 0 [])).1=d.ty)
  |none=>false))
 else if e.kind=12 then(t.getD 0 default,(match fv (nodeAt p node) e.name with
  |some d=>Jx t&&JB p.en d.ty e.arms
  |none=>false))
 else match vC p e t with
  |some i=>if(nodeAt p i).outs.length=1 then(((nodeAt p i).outs.getD 0 default).ty,true)else(⟨0,0,0⟩,false)
  |none=>(⟨0,0,0⟩,false)
theorem aky(p:fc)(node:Nat)(e:Ex)(t:List Ty):Cx p node e t=opt (nk p node e t):=by
 unfold Cx nk opt;repeat' split
 all_goals simp_all
noncomputable def nn:Ab->Prop×J:=bJ eI λk=>(True,.agg (dE ⟨k,0,0⟩))
theorem lk(k:Int):nn [.int .i64 k]=(True,.agg (dE ⟨k,0,0⟩)):=aI cF _ k
theorem azj:aJ Tryz.prog 194 nn:=by
 refine aJ.mS (ps:=[]) (I:=[]) trivial trivial aHy λk _=>?_
 ((refine aM.of ?_);(repeat' (first|((with_reducible refine aM.to ?_);(repeat(simp only[↓rP,rT,rU,eI,bC,aB,au,bw,aH,aS,DR.val,j0,iD,ik,J.bl,jN,J.one,ug,cellsOf,setFrom,J.D1,Nat.reduceEqDiff,Nat.reduceAdd,↓reduceIte,reduceCtorEq,Nat.reduceLeDiff,TO,awb]))))))
 all_goals rfl
theorem aIV:aJ Tryz.prog 179 YG:=by refine aJ.se (ps:=[(194,nn)]) (I:=[]) ⟨azj,BB⟩ trivial aHk λo t _=>?_;obtain⟨a,b,c⟩:=t;cases c1:ow ⟨a,b,c⟩ ⟨1,0,0⟩<;>cases c2:ow ⟨a,b,c⟩ ⟨2,0,0⟩<;>((have aF:=IT;refine aM.of ?_);(repeat' (first|((with_reducible refine aM.to ?_);(repeat(simp only[↓rP,rT,rU,eI,eA,bC,aB,au,cN,cX,bw,aH,aS,iN,DR.val,j0,fH,iD,ik,J.bl,bj,bq,cz,b8,bX,dC,jN,J.one,ug,cellsOf,setFrom,Nat.reduceEqDiff,Nat.reduceAdd,↓reduceIte,reduceCtorEq,Nat.reduceLeDiff,TO,avT,lk,sQ,qi,c1,c2,aF])))|(((((with_reducible refine bz (t:= ?_) ?_ (λdp=>?_) (λdp=>?_));rotate_left; . (rfl)))<;>(have hn:=dp;have aF:=dp)<;>(try simp only[GO,Br,SO]at hn)<;>(try(exfalso;omega))<;>(refine aM.of ?_)))|fail)));all_goals first|(simp_all [xb];done)|(simp_all [xb,ow];done)
theorem axj{o a b c a' b' c':Int}(E:o<=2):gP (dJ.of [(194,nn)] []) 0 aL.code (Ap aL.res (.b9 [.agg (dE (dV o ⟨a,b,c⟩ ⟨a',b',c'⟩).1),.bool (dV o ⟨a,b,c⟩ ⟨a',b',c'⟩).2])) ⟨[(0,eI o),(1,sQ ⟨a,b,c⟩),(2,sQ ⟨a',b',c'⟩)],[]⟩:=by
 have hg:qj o=0:=by unfold qj;grind
 have g0:¬(3<=o):=by omega
 have g1:o<=7:=by omega
 have g2:¬(8<=o):=by omega
 have g3:o<=10:=by omega
 have g4:¬(13<=o):=by omega
 have g5:o<=16:=by omega
 have g6:¬(o=11):=by omega
 have g7:¬(o=12):=by omega
 cases c1:ow ⟨a,b,c⟩ ⟨1,0,0⟩<;>cases c2:ow ⟨a',b',c'⟩ ⟨1,0,0⟩<;>cases c3:ow ⟨a,b,c⟩ ⟨2,0,0⟩<;>cases c4:ow ⟨a',b',c'⟩ ⟨2,0,0⟩<;>((have aF:=IT;refine aM.of ?_);(repeat' (first|((with_reducible refine aM.to ?_);(repeat(simp only[↓rP,rT,rU,eI,eA,bC,aB,au,cN,cX,bw,aH,aS,iN,DR.val,j0,fH,iD,ik,J.bl,bj,bq,cz,b8,bX,dC,jN,J.one,ug,cellsOf,setFrom,Nat.reduceEqDiff,Nat.reduceAdd,↓reduceIte,reduceCtorEq,Nat.reduceLeDiff,Nat.reduceLT,TO,aL,lk,sQ,qi,sP,eH,Nat.reduceEqDiff,↓reduceIte,Ck,J.cut,J.qA,ae.cut,reduceCtorEq,Nat.reduceLT,du,dw,g0,g2,g4,c1,c2,c3,c4,aF])))|(((((with_reducible refine bz (t:= ?_) ?_ (λdp=>?_) (λdp=>?_));rotate_left; . (rfl)))<;>(have hn:=dp;have aF:=dp)<;>(try simp only[GO,Br,SO]at hn)<;>(try(exfalso;omega))<;>(refine aM.of ?_)))|fail)));all_goals simp_all [dV]
theorem axk{o a b c a' b' c':Int}(E:3<=o/\o<=7):gP (dJ.of [(194,nn)] []) 0 aL.code (Ap aL.res (.b9 [.agg (dE (dV o ⟨a,b,c⟩ ⟨a',b',c'⟩).1),.bool (dV o ⟨a,b,c⟩ ⟨a',b',c'⟩).2])) ⟨[(0,eI o),(1,sQ ⟨a,b,c⟩),(2,sQ ⟨a',b',c'⟩)],[]⟩:=by
 have hg:qj o=1:=by unfold qj;grind
 have g0:3<=o:=by omega
 have g1:o<=7:=by omega
 have g2:¬(8<=o):=by omega
 have g3:o<=10:=by omega
 have g4:¬(13<=o):=by omega
 have g5:o<=16:=by omega
 have g6:¬(o=11):=by omega
 have g7:¬(o=12):=by omega
 cases c1:ow ⟨a,b,c⟩ ⟨1,0,0⟩<;>cases c2:ow ⟨a',b',c'⟩ ⟨1,0,0⟩<;>cases c3:ow ⟨a,b,c⟩ ⟨2,0,0⟩<;>cases c4:ow ⟨a',b',c'⟩ ⟨2,0,0⟩<;>((have aF:=IT;refine aM.of ?_);(repeat' (first|((with_reducible refine aM.to ?_);(repeat(simp only[↓rP,rT,rU,eI,eA,bC,aB,au,cN,cX,bw,aH,aS,iN,DR.val,j0,fH,iD,ik,J.bl,bj,bq,cz,b8,bX,dC,jN,J.one,ug,cellsOf,setFrom,Nat.reduceEqDiff,Nat.reduceAdd,↓reduceIte,reduceCtorEq,Nat.reduceLeDiff,Nat.reduceLT,TO,aL,lk,sQ,qi,sP,eH,Nat.reduceEqDiff,↓reduceIte,Ck,J.cut,J.qA,ae.cut,reduceCtorEq,Nat.reduceLT,du,dw,g0,g1,g2,g4,c1,c2,c3,c4,aF])))|(((((with_reducible refine bz (t:= ?_) ?_ (λdp=>?_) (λdp=>?_));rotate_left; . (rfl)))<;>(have hn:=dp;have aF:=dp)<;>(try simp only[GO,Br,SO]at hn)<;>(try(exfalso;omega))<;>(refine aM.of ?_)))|fail)));all_goals simp_all [dV]
theorem axl{o a b c a' b' c':Int}(E:8<=o/\o<=10):gP (dJ.of [(194,nn)] []) 0 aL.code (Ap aL.res (.b9 [.agg (dE (dV o ⟨a,b,c⟩ ⟨a',b',c'⟩).1),.bool (dV o ⟨a,b,c⟩ ⟨a',b',c'⟩).2])) ⟨[(0,eI o),(1,sQ ⟨a,b,c⟩),(2,sQ ⟨a',b',c'⟩)],[]⟩:=by
 have hg:qj o=2:=by unfold qj;grind
 have g0:3<=o:=by omega
 have g1:¬(o<=7):=by omega
 have g2:8<=o:=by omega
 have g3:o<=10:=by omega
 have g4:¬(13<=o):=by omega
 have g5:o<=16:=by omega
 have g6:¬(o=11):=by omega
 have g7:¬(o=12):=by omega
 cases c1:ow ⟨a,b,c⟩ ⟨1,0,0⟩<;>cases c2:ow ⟨a',b',c'⟩ ⟨1,0,0⟩<;>cases c3:ow ⟨a,b,c⟩ ⟨2,0,0⟩<;>cases c4:ow ⟨a',b',c'⟩ ⟨2,0,0⟩<;>((have aF:=IT;refine aM.of ?_);(repeat' (first|((with_reducible refine aM.to ?_);(repeat(simp only[↓rP,rT,rU,eI,eA,bC,aB,au,cN,cX,bw,aH,aS,iN,DR.val,j0,fH,iD,ik,J.bl,bj,bq,cz,b8,bX,dC,jN,J.one,ug,cellsOf,setFrom,Nat.reduceEqDiff,Nat.reduceAdd,↓reduceIte,reduceCtorEq,Nat.reduceLeDiff,Nat.reduceLT,TO,aL,lk,sQ,qi,sP,eH,Nat.reduceEqDiff,↓reduceIte,Ck,J.cut,J.qA,ae.cut,reduceCtorEq,Nat.reduceLT,du,dw,g0,g1,g2,g3,g4,c1,c2,c3,c4,aF])))|(((((with_reducible refine bz (t:= ?_) ?_ (λdp=>?_) (λdp=>?_));rotate_left; . (rfl)))<;>(have hn:=dp;have aF:=dp)<;>(try simp only[GO,Br,SO]at hn)<;>(try(exfalso;omega))<;>(refine aM.of ?_)))|fail)));all_goals simp_all [dV]
theorem axm{o a b c a' b' c':Int}(E:o=11):gP (dJ.of [(194,nn)] []) 0 aL.code (Ap aL.res (.b9 [.agg (dE (dV o ⟨a,b,c⟩ ⟨a',b',c'⟩).1),.bool (dV o ⟨a,b,c⟩ ⟨a',b',c'⟩).2])) ⟨[(0,eI o),(1,sQ ⟨a,b,c⟩),(2,sQ ⟨a',b',c'⟩)],[]⟩:=by
 have hg:qj o=4:=by unfold qj;grind
 have g0:3<=o:=by omega
 have g1:¬(o<=7):=by omega
 have g2:8<=o:=by omega
 have g3:¬(o<=10):=by omega
 have g4:¬(13<=o):=by omega
 have g5:o<=16:=by omega
 have g6:o=11:=by omega
 have g7:¬(o=12):=by omega
 cases c1:ow ⟨a,b,c⟩ ⟨1,0,0⟩<;>cases c2:ow ⟨a',b',c'⟩ ⟨1,0,0⟩<;>cases c3:ow ⟨a,b,c⟩ ⟨2,0,0⟩<;>cases c4:ow ⟨a',b',c'⟩ ⟨2,0,0⟩<;>cases c5:ow ⟨a,b,c⟩ ⟨a',b',c'⟩<;>cases c6:(c==0)<;>((have aF:=IT;refine aM.of ?_);(repeat' (first|((with_reducible refine aM.to ?_);(repeat(simp only[↓rP,rT,rU,eI,eA,bC,aB,au,cN,cX,bw,aH,aS,iN,DR.val,j0,fH,iD,ik,J.bl,bj,bq,cz,b8,bX,dC,jN,J.one,alive,ug,cellsOf,setFrom,Nat.reduceEqDiff,Nat.reduceAdd,↓reduceIte,reduceCtorEq,Int.reduceLE,Nat.reduceLeDiff,Nat.reduceLT,TO,aL,lk,sQ,qi,sP,eH,Nat.reduceEqDiff,↓reduceIte,Ck,J.cut,J.qA,ae.cut,reduceCtorEq,Nat.reduceLT,du,dw,g6,c1,c2,c3,c4,c5,c6,aF]))))));all_goals simp_all [dV]
theorem axn{o a b c a' b' c':Int}(E:o=12):gP (dJ.of [(194,nn)] []) 0 aL.code (Ap aL.res (.b9 [.agg (dE (dV o ⟨a,b,c⟩ ⟨a',b',c'⟩).1),.bool (dV o ⟨a,b,c⟩ ⟨a',b',c'⟩).2])) ⟨[(0,eI o),(1,sQ ⟨a,b,c⟩),(2,sQ ⟨a',b',c'⟩)],[]⟩:=by
 have hg:qj o=4:=by unfold qj;grind
 have g0:3<=o:=by omega
 have g1:¬(o<=7):=by omega
 have g2:8<=o:=by omega
 have g3:¬(o<=10):=by omega
 have g4:¬(13<=o):=by omega
 have g5:o<=16:=by omega
 have g6:¬(o=11):=by omega
 have g7:o=12:=by omega
 cases c1:ow ⟨a,b,c⟩ ⟨1,0,0⟩<;>cases c2:ow ⟨a',b',c'⟩ ⟨1,0,0⟩<;>cases c3:ow ⟨a,b,c⟩ ⟨2,0,0⟩<;>cases c4:ow ⟨a',b',c'⟩ ⟨2,0,0⟩<;>cases c5:ow ⟨a,b,c⟩ ⟨a',b',c'⟩<;>cases c6:(c==0)<;>((have aF:=IT;refine aM.of ?_);(repeat' (first|((with_reducible refine aM.to ?_);(repeat(simp only[↓rP,rT,rU,eI,eA,bC,aB,au,cN,cX,bw,aH,aS,iN,DR.val,j0,fH,iD,ik,J.bl,bj,bq,cz,b8,bX,dC,jN,J.one,alive,ug,cellsOf,setFrom,Nat.reduceEqDiff,Nat.reduceAdd,↓reduceIte,reduceCtorEq,Int.reduceLE,Nat.reduceLeDiff,Nat.reduceLT,Int.reduceBEq,TO,aL,lk,sQ,qi,sP,eH,Nat.reduceEqDiff,↓reduceIte,Ck,J.cut,J.qA,ae.cut,reduceCtorEq,Nat.reduceLT,du,dw,g7,c1,c2,c3,c4,c5,c6,aF]))))));all_goals simp_all [dV]
theorem axo{o a b c a' b' c':Int}(E:13<=o/\o<=16):gP (dJ.of [(194,nn)] []) 0 aL.code (Ap aL.res (.b9 [.agg (dE (dV o ⟨a,b,c⟩ ⟨a',b',c'⟩).1),.bool (dV o ⟨a,b,c⟩ ⟨a',b',c'⟩).2])) ⟨[(0,eI o),(1,sQ ⟨a,b,c⟩),(2,sQ ⟨a',b',c'⟩)],[]⟩:=by
 have hg:qj o=3:=by unfold qj;grind
 have g0:3<=o:=by omega
 have g1:¬(o<=7):=by omega
 have g2:8<=o:=by omega
 have g3:¬(o<=10):=by omega
 have g4:13<=o:=by omega
 have g5:o<=16:=by omega
 have g6:¬(o=11):=by omega
 have g7:¬(o=12):=by omega
 cases c1:ow ⟨a,b,c⟩ ⟨1,0,0⟩<;>cases c2:ow ⟨a',b',c'⟩ ⟨1,0,0⟩<;>cases c3:ow ⟨a,b,c⟩ ⟨2,0,0⟩<;>cases c4:ow ⟨a',b',c'⟩ ⟨2,0,0⟩<;>((have aF:=IT;refine aM.of ?_);(repeat' (first|((with_reducible refine aM.to ?_);(repeat(simp only[↓rP,rT,rU,eI,eA,bC,aB,au,cN,cX,bw,aH,aS,iN,DR.val,j0,fH,iD,ik,J.bl,bj,bq,cz,b8,bX,dC,jN,J.one,ug,cellsOf,setFrom,Nat.reduceEqDiff,Nat.reduceAdd,↓reduceIte,reduceCtorEq,Nat.reduceLeDiff,Nat.reduceLT,TO,aL,lk,sQ,qi,sP,eH,Nat.reduceEqDiff,↓reduceIte,Ck,J.cut,J.qA,ae.cut,reduceCtorEq,Nat.reduceLT,du,dw,g0,g1,g2,g3,g4,g5,c1,c2,c3,c4,aF])))|(((((with_reducible refine bz (t:= ?_) ?_ (λdp=>?_) (λdp=>?_));rotate_left; . (rfl)))<;>(have hn:=dp;have aF:=dp)<;>(try simp only[GO,Br,SO]at hn)<;>(try(exfalso;omega))<;>(refine aM.of ?_)))|fail)));all_goals simp_all [dV]
theorem axp{o a b c a' b' c':Int}(E:17<=o):gP (dJ.of [(194,nn)] []) 0 aL.code (Ap aL.res (.b9 [.agg (dE (dV o ⟨a,b,c⟩ ⟨a',b',c'⟩).1),.bool (dV o ⟨a,b,c⟩ ⟨a',b',c'⟩).2])) ⟨[(0,eI o),(1,sQ ⟨a,b,c⟩),(2,sQ ⟨a',b',c'⟩)],[]⟩:=by
 have hg:qj o=0:=by unfold qj;grind
 have g0:3<=o:=by omega
 have g1:¬(o<=7):=by omega
 have g2:8<=o:=by omega
 have g3:¬(o<=10):=by omega
 have g4:13<=o:=by omega
 have g5:¬(o<=16):=by omega
 have g6:¬(o=11):=by omega
 have g7:¬(o=12):=by omega
 cases c1:ow ⟨a,b,c⟩ ⟨1,0,0⟩<;>cases c2:ow ⟨a',b',c'⟩ ⟨1,0,0⟩<;>cases c3:ow ⟨a,b,c⟩ ⟨2,0,0⟩<;>cases c4:ow ⟨a',b',c'⟩ ⟨2,0,0⟩<;>((have aF:=IT;refine aM.of ?_);(repeat' (first|((with_reducible refine aM.to ?_);(repeat(simp only[↓rP,rT,rU,eI,eA,bC,aB,au,cN,cX,bw,aH,aS,iN,DR.val,j0,fH,iD,ik,J.bl,bj,bq,cz,b8,bX,dC,jN,J.one,ug,cellsOf,setFrom,Nat.reduceEqDiff,Nat.reduceAdd,↓reduceIte,reduceCtorEq,Nat.reduceLeDiff,Nat.reduceLT,TO,aL,lk,sQ,qi,sP,eH,Nat.reduceEqDiff,↓reduceIte,Ck,J.cut,J.qA,ae.cut,reduceCtorEq,Nat.reduceLT,du,dw,g0,g1,g2,g3,g4,g5,c1,c2,c3,c4,aF])))|(((((with_reducible refine bz (t:= ?_) ?_ (λdp=>?_) (λdp=>?_));rotate_left; . (rfl)))<;>(have hn:=dp;have aF:=dp)<;>(try simp only[GO,Br,SO]at hn)<;>(try(exfalso;omega))<;>(refine aM.of ?_)))|fail)));all_goals simp_all [dV]
theorem aIW:aJ Tryz.prog 180 Sb:=by
 refine aJ.zP (ps:=[(194,nn)]) (I:=[]) ⟨azj,BB⟩ trivial aHl λo t u _=>?_;obtain⟨a,b,c⟩:=t;obtain⟨a',b',c'⟩:=u;have E:o<=2\/(3<=o/\o<=7)\/(8<=o/\o<=10)\/o=11\/o=12\/(13<=o/\o<=16)\/17<=o:=by omega
 rcases E with E|E|E|E|E|E|E
 .exact axj E
 .exact axk E
 .exact axl E
 .exact axm E
 .exact axn E
 .exact axo E
 .exact axp E
end Go.Proofs.YtldnkkkooabaeaaGreat

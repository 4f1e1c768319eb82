/- Programs: types: the walk (16), its small functions. -/
import Derived.Test.YtcokmopocppmiaaGreatPgC
set_option maxHeartbeats 1000000
set_option linter.all false
set_option maxRecDepth 20000
namespace Go.Proofs.YtcokmopocppmiaaGreat
open Go.Nk
def opt(x:Ty×Bool):Option Ty:=if x.2 then some x.1 else none
def jn(e:Ex)(t:List Ty):Ty×Bool:=
 if e.kind=5 then vz e.op (t.getD 0 default)
 else if e.kind=6 then dB e.op (t.getD 0 default) (t.getD 1 default)
 else if e.kind=7 then(t.getD 1 default,jF (t.getD 0 default)&&decide (t.getD 1 default=t.getD 2 default))
 else if e.kind=14 then(⟨(t.getD 0 default).k,(t.getD 0 default).e,t.length⟩,Dq t&&decide ((t.getD 0 default).n=0))
 else if e.kind=15 then(unT (t.getD 0 default),decide (0<(t.getD 0 default).n)&&qH (t.getD 1 default))
 else(t.getD 0 default,decide (0<(t.getD 0 default).n)&&qH (t.getD 1 default)&&decide (t.getD 2 default=unT (t.getD 0 default)))
theorem abT(e:Ex)(t:List Ty):rW e t=opt (jn e t):=by
 unfold rW jn opt;repeat' split
 all_goals simp_all
def kF(p:cY)(node:Nat)(e:Ex)(t:List Ty):Ty×Bool:=
 if e.kind=9 then(t.getD 0 default,decide (t.getD 0 default=t.getD 1 default))
 else if e.kind=10 then(t.getD 0 default,true)
 else if e.kind=11 then(t.getD 0 default,(match eT (nodeAt p node) e.name with
  |some d=>my p.en (e.arms.getD 0 [])&&decide ((fA p.en (e.arms.getD 0 [])).1=d.ty)
  |none=>false))
 else if e.kind=12 then(t.getD 0 default,(match eT (nodeAt p node) e.name with
  |some d=>Dq t&&Dr p.en d.ty e.arms
  |none=>false))
 else match ra p e t with
  |some i=>if(nodeAt p i).outs.length=1 then(((nodeAt p i).outs.getD 0 default).ty,true)else(⟨0,0,0⟩,false)
  |none=>(⟨0,0,0⟩,false)
theorem agn(p:cY)(node:Nat)(e:Ex)(t:List Ty):AW p node e t=opt (kF p node e t):=by
 unfold AW kF opt;repeat' split
 all_goals simp_all
noncomputable def lX:List DV->Prop×DV:=bB eI λk=>(True,.agg (cK ⟨k,0,0⟩))
theorem jW(k:Int):lX [.int .i64 k]=(True,.agg (cK ⟨k,0,0⟩)):=aH b6 _ k
theorem sy:aF Tryz.prog 191 lX:=by refine aF.mo (ps:=[]) (hs:=[]) trivial trivial EH λk _=> ?_;exact aq @tZ.eq_1 zz;all_goals rfl
theorem EE:aF Tryz.prog 175 Vm:=by refine aF.oU (ps:=[(191,lX)]) (hs:=[]) ⟨sy,trivial⟩ trivial Hm λo t _=> ?_;obtain⟨a,b,c⟩:=t;cases c1:mT ⟨a,b,c⟩ ⟨1,0,0⟩<;>cases c2:mT ⟨a,b,c⟩ ⟨2,0,0⟩<;>((have az:=Bool.and_self;refine aL.of ?_);(repeat' (first|((with_reducible refine aL.to ?_);(repeat(simp only[↓rP,rT,rU,eI,eA,bZ,aC,aw,cI,cS,bA,aI,aW,iK,DR.val,jB,fx,iq,hH,DV.aY,bh,bn,cn,bX,bW,dE,lY,DV.one,tJ,cellsOf,setFrom,Nat.reduceEqDiff,Nat.reduceAdd,↓reduceIte,reduceCtorEq,Nat.reduceLeDiff,forall_const,vB,jW,tW,oO,c1,c2,az])))|(((((with_reducible refine bt (t:= ?_) ?_ (λcZ=> ?_) (λcZ=> ?_));rotate_left; . (rfl)))<;>(have hn:=cZ;have az:=cZ)<;>(try simp only[beq_iff_eq,ne_eq,beq_eq_false_iff_ne]at hn)<;>(try(exfalso;omega))<;>(refine aL.of ?_)))|fail)));all_goals first|(simp_all [vz];done)|(simp_all [vz,mT];done)
theorem arC{o a b c a' b' c':Int}(hr:o<=2):gO (jL.of [(191,lX)] []) 0 aK.code (yH aK.res (.cy [.agg (cK (dB o ⟨a,b,c⟩ ⟨a',b',c'⟩).1),.bool (dB o ⟨a,b,c⟩ ⟨a',b',c'⟩).2])) ⟨[(0,eI o),(1,tW ⟨a,b,c⟩),(2,tW ⟨a',b',c'⟩)],[]⟩:=by
 have hg:oP o=0:=by unfold oP;grind
 have g0:¬(3<=o):=by omega
 have g1:o<=7:=by omega
 have g2:¬(8<=o):=by omega
 have g3:o<=10:=by omega
 have g4:¬(13<=o):=by omega
 have g5:o<=16:=by omega
 have g6:¬(o=11):=by omega
 have g7:¬(o=12):=by omega
 cases c1:mT ⟨a,b,c⟩ ⟨1,0,0⟩<;>cases c2:mT ⟨a',b',c'⟩ ⟨1,0,0⟩<;>cases c3:mT ⟨a,b,c⟩ ⟨2,0,0⟩<;>cases c4:mT ⟨a',b',c'⟩ ⟨2,0,0⟩<;>((have az:=Bool.and_self;refine aL.of ?_);(repeat' (first|((with_reducible refine aL.to ?_);(repeat(simp only[↓rP,rT,rU,eI,eA,bZ,aC,aw,cI,cS,bA,aI,aW,iK,DR.val,jB,fx,iq,hH,DV.aY,bh,bn,cn,bX,bW,dE,lY,DV.one,tJ,cellsOf,setFrom,Nat.reduceEqDiff,Nat.reduceAdd,↓reduceIte,reduceCtorEq,Nat.reduceLeDiff,Nat.reduceLT,forall_const,aK,jW,tW,oO,yI,dK,Nat.reduceEqDiff,↓reduceIte,Nat.succ_ne_self,DV.cut,DV.rR,ak.cut,reduceCtorEq,Nat.reduceLT,cL,cM,g0,g2,g4,c1,c2,c3,c4,az])))|(((((with_reducible refine bt (t:= ?_) ?_ (λcZ=> ?_) (λcZ=> ?_));rotate_left; . (rfl)))<;>(have hn:=cZ;have az:=cZ)<;>(try simp only[beq_iff_eq,ne_eq,beq_eq_false_iff_ne]at hn)<;>(try(exfalso;omega))<;>(refine aL.of ?_)))|fail)));all_goals simp_all [dB]
theorem arD{o a b c a' b' c':Int}(hr:3<=o/\o<=7):gO (jL.of [(191,lX)] []) 0 aK.code (yH aK.res (.cy [.agg (cK (dB o ⟨a,b,c⟩ ⟨a',b',c'⟩).1),.bool (dB o ⟨a,b,c⟩ ⟨a',b',c'⟩).2])) ⟨[(0,eI o),(1,tW ⟨a,b,c⟩),(2,tW ⟨a',b',c'⟩)],[]⟩:=by
 have hg:oP o=1:=by unfold oP;grind
 have g0:3<=o:=by omega
 have g1:o<=7:=by omega
 have g2:¬(8<=o):=by omega
 have g3:o<=10:=by omega
 have g4:¬(13<=o):=by omega
 have g5:o<=16:=by omega
 have g6:¬(o=11):=by omega
 have g7:¬(o=12):=by omega
 cases c1:mT ⟨a,b,c⟩ ⟨1,0,0⟩<;>cases c2:mT ⟨a',b',c'⟩ ⟨1,0,0⟩<;>cases c3:mT ⟨a,b,c⟩ ⟨2,0,0⟩<;>cases c4:mT ⟨a',b',c'⟩ ⟨2,0,0⟩<;>((have az:=Bool.and_self;refine aL.of ?_);(repeat' (first|((with_reducible refine aL.to ?_);(repeat(simp only[↓rP,rT,rU,eI,eA,bZ,aC,aw,cI,cS,bA,aI,aW,iK,DR.val,jB,fx,iq,hH,DV.aY,bh,bn,cn,bX,bW,dE,lY,DV.one,tJ,cellsOf,setFrom,Nat.reduceEqDiff,Nat.reduceAdd,↓reduceIte,reduceCtorEq,Nat.reduceLeDiff,Nat.reduceLT,forall_const,aK,jW,tW,oO,yI,dK,Nat.reduceEqDiff,↓reduceIte,Nat.succ_ne_self,DV.cut,DV.rR,ak.cut,reduceCtorEq,Nat.reduceLT,cL,cM,g0,g1,g2,g4,c1,c2,c3,c4,az])))|(((((with_reducible refine bt (t:= ?_) ?_ (λcZ=> ?_) (λcZ=> ?_));rotate_left; . (rfl)))<;>(have hn:=cZ;have az:=cZ)<;>(try simp only[beq_iff_eq,ne_eq,beq_eq_false_iff_ne]at hn)<;>(try(exfalso;omega))<;>(refine aL.of ?_)))|fail)));all_goals simp_all [dB]
theorem arE{o a b c a' b' c':Int}(hr:8<=o/\o<=10):gO (jL.of [(191,lX)] []) 0 aK.code (yH aK.res (.cy [.agg (cK (dB o ⟨a,b,c⟩ ⟨a',b',c'⟩).1),.bool (dB o ⟨a,b,c⟩ ⟨a',b',c'⟩).2])) ⟨[(0,eI o),(1,tW ⟨a,b,c⟩),(2,tW ⟨a',b',c'⟩)],[]⟩:=by
 have hg:oP o=2:=by unfold oP;grind
 have g0:3<=o:=by omega
 have g1:¬(o<=7):=by omega
 have g2:8<=o:=by omega
 have g3:o<=10:=by omega
 have g4:¬(13<=o):=by omega
 have g5:o<=16:=by omega
 have g6:¬(o=11):=by omega
 have g7:¬(o=12):=by omega
 cases c1:mT ⟨a,b,c⟩ ⟨1,0,0⟩<;>cases c2:mT ⟨a',b',c'⟩ ⟨1,0,0⟩<;>cases c3:mT ⟨a,b,c⟩ ⟨2,0,0⟩<;>cases c4:mT ⟨a',b',c'⟩ ⟨2,0,0⟩<;>((have az:=Bool.and_self;refine aL.of ?_);(repeat' (first|((with_reducible refine aL.to ?_);(repeat(simp only[↓rP,rT,rU,eI,eA,bZ,aC,aw,cI,cS,bA,aI,aW,iK,DR.val,jB,fx,iq,hH,DV.aY,bh,bn,cn,bX,bW,dE,lY,DV.one,tJ,cellsOf,setFrom,Nat.reduceEqDiff,Nat.reduceAdd,↓reduceIte,reduceCtorEq,Nat.reduceLeDiff,Nat.reduceLT,forall_const,aK,jW,tW,oO,yI,dK,Nat.reduceEqDiff,↓reduceIte,Nat.succ_ne_self,DV.cut,DV.rR,ak.cut,reduceCtorEq,Nat.reduceLT,cL,cM,g0,g1,g2,g3,g4,c1,c2,c3,c4,az])))|(((((with_reducible refine bt (t:= ?_) ?_ (λcZ=> ?_) (λcZ=> ?_));rotate_left; . (rfl)))<;>(have hn:=cZ;have az:=cZ)<;>(try simp only[beq_iff_eq,ne_eq,beq_eq_false_iff_ne]at hn)<;>(try(exfalso;omega))<;>(refine aL.of ?_)))|fail)));all_goals simp_all [dB]
theorem arF{o a b c a' b' c':Int}(hr:o=11):gO (jL.of [(191,lX)] []) 0 aK.code (yH aK.res (.cy [.agg (cK (dB o ⟨a,b,c⟩ ⟨a',b',c'⟩).1),.bool (dB o ⟨a,b,c⟩ ⟨a',b',c'⟩).2])) ⟨[(0,eI o),(1,tW ⟨a,b,c⟩),(2,tW ⟨a',b',c'⟩)],[]⟩:=by
 have hg:oP o=4:=by unfold oP;grind
 have g0:3<=o:=by omega
 have g1:¬(o<=7):=by omega
 have g2:8<=o:=by omega
 have g3:¬(o<=10):=by omega
 have g4:¬(13<=o):=by omega
 have g5:o<=16:=by omega
 have g6:o=11:=by omega
 have g7:¬(o=12):=by omega
 cases c1:mT ⟨a,b,c⟩ ⟨1,0,0⟩<;>cases c2:mT ⟨a',b',c'⟩ ⟨1,0,0⟩<;>cases c3:mT ⟨a,b,c⟩ ⟨2,0,0⟩<;>cases c4:mT ⟨a',b',c'⟩ ⟨2,0,0⟩<;>cases c5:mT ⟨a,b,c⟩ ⟨a',b',c'⟩<;>cases c6:(c==0)<;>((have az:=Bool.and_self;refine aL.of ?_);(repeat' (first|((with_reducible refine aL.to ?_);(repeat(simp only[↓rP,rT,rU,eI,eA,bZ,aC,aw,cI,cS,bA,aI,aW,iK,DR.val,jB,fx,iq,hH,DV.aY,bh,bn,cn,bX,bW,dE,lY,DV.one,alive,tJ,cellsOf,setFrom,Nat.reduceEqDiff,Nat.reduceAdd,↓reduceIte,reduceCtorEq,Int.reduceLE,Nat.reduceLeDiff,Nat.reduceLT,forall_const,aK,jW,tW,oO,yI,dK,Nat.reduceEqDiff,↓reduceIte,Nat.succ_ne_self,DV.cut,DV.rR,ak.cut,reduceCtorEq,Nat.reduceLT,cL,cM,g6,c1,c2,c3,c4,c5,c6,az]))))));all_goals simp_all [dB]
theorem arG{o a b c a' b' c':Int}(hr:o=12):gO (jL.of [(191,lX)] []) 0 aK.code (yH aK.res (.cy [.agg (cK (dB o ⟨a,b,c⟩ ⟨a',b',c'⟩).1),.bool (dB o ⟨a,b,c⟩ ⟨a',b',c'⟩).2])) ⟨[(0,eI o),(1,tW ⟨a,b,c⟩),(2,tW ⟨a',b',c'⟩)],[]⟩:=by
 have hg:oP o=4:=by unfold oP;grind
 have g0:3<=o:=by omega
 have g1:¬(o<=7):=by omega
 have g2:8<=o:=by omega
 have g3:¬(o<=10):=by omega
 have g4:¬(13<=o):=by omega
 have g5:o<=16:=by omega
 have g6:¬(o=11):=by omega
 have g7:o=12:=by omega
 cases c1:mT ⟨a,b,c⟩ ⟨1,0,0⟩<;>cases c2:mT ⟨a',b',c'⟩ ⟨1,0,0⟩<;>cases c3:mT ⟨a,b,c⟩ ⟨2,0,0⟩<;>cases c4:mT ⟨a',b',c'⟩ ⟨2,0,0⟩<;>cases c5:mT ⟨a,b,c⟩ ⟨a',b',c'⟩<;>cases c6:(c==0)<;>((have az:=Bool.and_self;refine aL.of ?_);(repeat' (first|((with_reducible refine aL.to ?_);(repeat(simp only[↓rP,rT,rU,eI,eA,bZ,aC,aw,cI,cS,bA,aI,aW,iK,DR.val,jB,fx,iq,hH,DV.aY,bh,bn,cn,bX,bW,dE,lY,DV.one,alive,tJ,cellsOf,setFrom,Nat.reduceEqDiff,Nat.reduceAdd,↓reduceIte,reduceCtorEq,Int.reduceLE,Nat.reduceLeDiff,Nat.reduceLT,Int.reduceBEq,forall_const,aK,jW,tW,oO,yI,dK,Nat.reduceEqDiff,↓reduceIte,Nat.succ_ne_self,DV.cut,DV.rR,ak.cut,reduceCtorEq,Nat.reduceLT,cL,cM,g7,c1,c2,c3,c4,c5,c6,az]))))));all_goals simp_all [dB]
theorem arH{o a b c a' b' c':Int}(hr:13<=o/\o<=16):gO (jL.of [(191,lX)] []) 0 aK.code (yH aK.res (.cy [.agg (cK (dB o ⟨a,b,c⟩ ⟨a',b',c'⟩).1),.bool (dB o ⟨a,b,c⟩ ⟨a',b',c'⟩).2])) ⟨[(0,eI o),(1,tW ⟨a,b,c⟩),(2,tW ⟨a',b',c'⟩)],[]⟩:=by
 have hg:oP o=3:=by unfold oP;grind
 have g0:3<=o:=by omega
 have g1:¬(o<=7):=by omega
 have g2:8<=o:=by omega
 have g3:¬(o<=10):=by omega
 have g4:13<=o:=by omega
 have g5:o<=16:=by omega
 have g6:¬(o=11):=by omega
 have g7:¬(o=12):=by omega
 cases c1:mT ⟨a,b,c⟩ ⟨1,0,0⟩<;>cases c2:mT ⟨a',b',c'⟩ ⟨1,0,0⟩<;>cases c3:mT ⟨a,b,c⟩ ⟨2,0,0⟩<;>cases c4:mT ⟨a',b',c'⟩ ⟨2,0,0⟩<;>((have az:=Bool.and_self;refine aL.of ?_);(repeat' (first|((with_reducible refine aL.to ?_);(repeat(simp only[↓rP,rT,rU,eI,eA,bZ,aC,aw,cI,cS,bA,aI,aW,iK,DR.val,jB,fx,iq,hH,DV.aY,bh,bn,cn,bX,bW,dE,lY,DV.one,tJ,cellsOf,setFrom,Nat.reduceEqDiff,Nat.reduceAdd,↓reduceIte,reduceCtorEq,Nat.reduceLeDiff,Nat.reduceLT,forall_const,aK,jW,tW,oO,yI,dK,Nat.reduceEqDiff,↓reduceIte,Nat.succ_ne_self,DV.cut,DV.rR,ak.cut,reduceCtorEq,Nat.reduceLT,cL,cM,g0,g1,g2,g3,g4,g5,c1,c2,c3,c4,az])))|(((((with_reducible refine bt (t:= ?_) ?_ (λcZ=> ?_) (λcZ=> ?_));rotate_left; . (rfl)))<;>(have hn:=cZ;have az:=cZ)<;>(try simp only[beq_iff_eq,ne_eq,beq_eq_false_iff_ne]at hn)<;>(try(exfalso;omega))<;>(refine aL.of ?_)))|fail)));all_goals simp_all [dB]
theorem arI{o a b c a' b' c':Int}(hr:17<=o):gO (jL.of [(191,lX)] []) 0 aK.code (yH aK.res (.cy [.agg (cK (dB o ⟨a,b,c⟩ ⟨a',b',c'⟩).1),.bool (dB o ⟨a,b,c⟩ ⟨a',b',c'⟩).2])) ⟨[(0,eI o),(1,tW ⟨a,b,c⟩),(2,tW ⟨a',b',c'⟩)],[]⟩:=by
 have hg:oP o=0:=by unfold oP;grind
 have g0:3<=o:=by omega
 have g1:¬(o<=7):=by omega
 have g2:8<=o:=by omega
 have g3:¬(o<=10):=by omega
 have g4:13<=o:=by omega
 have g5:¬(o<=16):=by omega
 have g6:¬(o=11):=by omega
 have g7:¬(o=12):=by omega
 cases c1:mT ⟨a,b,c⟩ ⟨1,0,0⟩<;>cases c2:mT ⟨a',b',c'⟩ ⟨1,0,0⟩<;>cases c3:mT ⟨a,b,c⟩ ⟨2,0,0⟩<;>cases c4:mT ⟨a',b',c'⟩ ⟨2,0,0⟩<;>((have az:=Bool.and_self;refine aL.of ?_);(repeat' (first|((with_reducible refine aL.to ?_);(repeat(simp only[↓rP,rT,rU,eI,eA,bZ,aC,aw,cI,cS,bA,aI,aW,iK,DR.val,jB,fx,iq,hH,DV.aY,bh,bn,cn,bX,bW,dE,lY,DV.one,tJ,cellsOf,setFrom,Nat.reduceEqDiff,Nat.reduceAdd,↓reduceIte,reduceCtorEq,Nat.reduceLeDiff,Nat.reduceLT,forall_const,aK,jW,tW,oO,yI,dK,Nat.reduceEqDiff,↓reduceIte,Nat.succ_ne_self,DV.cut,DV.rR,ak.cut,reduceCtorEq,Nat.reduceLT,cL,cM,g0,g1,g2,g3,g4,g5,c1,c2,c3,c4,az])))|(((((with_reducible refine bt (t:= ?_) ?_ (λcZ=> ?_) (λcZ=> ?_));rotate_left; . (rfl)))<;>(have hn:=cZ;have az:=cZ)<;>(try simp only[beq_iff_eq,ne_eq,beq_eq_false_iff_ne]at hn)<;>(try(exfalso;omega))<;>(refine aL.of ?_)))|fail)));all_goals simp_all [dB]
theorem CK:aF Tryz.prog 176 OZ:=by
 refine aF.uR (ps:=[(191,lX)]) (hs:=[]) ⟨sy,trivial⟩ trivial EI λo t u _=> ?_;obtain⟨a,b,c⟩:=t;obtain⟨a',b',c'⟩:=u;have hr:o<=2\/(3<=o/\o<=7)\/(8<=o/\o<=10)\/o=11\/o=12\/(13<=o/\o<=16)\/17<=o:=by omega
 rcases hr with hr|hr|hr|hr|hr|hr|hr
 ·exact arC hr
 ·exact arD hr
 ·exact arE hr
 ·exact arF hr
 ·exact arG hr
 ·exact arH hr
 ·exact arI hr
end Go.Proofs.YtcokmopocppmiaaGreat

/- The operators: what each function tells. -/
import Derived.Test.YtcokmopocppmiaaGreatExC
import Derived.Test.YtcokmopocppmiaaGreatTxK
import Derived.Test.YtcokmopocppmiaaGreatEqT
set_option linter.all false
set_option maxRecDepth 20000
namespace Go.Proofs.YtcokmopocppmiaaGreat
noncomputable section
open Go.Nk
def tr(b:Bool):Int:=if b then 1 else 0
def gD(x:Int):Prop:= -9223372036854775808<=x/\x<9223372036854775808
def aki(x):=show IntKind.i64.wrap x=_ from IntKind.wrap_i64 x
theorem arM{x}(h:gD x):IntKind.i64.wrap x=x:=by unfold gD at h;rw[IntKind.wrap_i64];omega
theorem J6{x y}(h:x%18446744073709551616=y%18446744073709551616):IntKind.i64.wrap x=IntKind.i64.wrap y:=by rw[IntKind.wrap_i64,IntKind.wrap_i64];omega
theorem aob(x):IntKind.i64.wrap x%18446744073709551616=x%18446744073709551616:=by rw[IntKind.wrap_i64];omega
def EV(b:Bool):Prop×DV:=(True,.int .i64 (tr b))
def yN:List DV->Prop×DV:=bB eB EV
def yO(b):=show yN [.bool b]=_ from aH auT _ _
theorem AY:aF Tryz.prog 157 yN:=by refine aF.mo (ps:=[]) (hs:=[]) trivial trivial RK λb _=> ?_;cases b<;>simp only[↓CR,CS,Dt,eB,↓br,aC,aw,↓reduceIte,aW,DR.val,jB,iq,hH,DV.aY,Bool.false_eq_true,reduceCtorEq,EV,tr]
theorem Hv:aF Tryz.prog 116 yN:=by refine aF.mo (ps:=[]) (hs:=[]) trivial trivial EW λb _=> ?_;cases b<;>simp only[↓CR,CS,uf,eB,↓br,aC,aw,↓reduceIte,aW,DR.val,jB,iq,hH,DV.aY,Bool.false_eq_true,reduceCtorEq,EV,tr]
def Sq(op a:Int):Int×Int:=if op=1 then(IntKind.i64.wrap (0-a),0)else if op=2 then(tr (a==0),0)else(0,1)
def fUn(op a:Int):Prop×DV:=(True,.cy [.int .i64 (Sq op a).1,.int .i64 (Sq op a).2])
def ai4:List DV->Prop×DV:=b5 eI eI fUn
def ad5(op a):=show ai4 [.int .i64 op,.int .i64 a]=_ from aO b6 b6 _ _ _
theorem XA:aF Tryz.prog 138 ai4:=by
 refine aF.oU (ps:=[(157,yN)]) (hs:=[]) ⟨AY,trivial⟩ trivial ab2 λop a _=> ?_;by_cases h1:op=1
 ·subst h1;simp only[↓CR,CS,yP,eI,↓br,aC,aw,Nat.reduceEqDiff,↓reduceIte,cI,cS,IX,aW,iK,DR.val,jB,fx,iq,hH,DV.aY,reduceCtorEq,IntKind.wrap_i64,beq_self_eq_true,fUn,Sq]
 by_cases h2:op=2
 ·have e1:(op==1)=false:=by simp[h1]
  subst h2;simp only[↓CR,CS,yP,eI,↓br,aC,aw,Nat.reduceEqDiff,↓reduceIte,cI,cS,aW,iK,DR.val,jB,fx,iq,hH,DV.aY,List.map_cons,List.map_nil,Bool.false_eq_true,reduceCtorEq,bh,bn,cn,bX,bW,dE,beq_self_eq_true,Int.reduceBEq,Int.reduceEq,fUn,Sq,yO,EV]
 ·have e1:(op==1)=false:=by simp[h1]
  have e2:(op==2)=false:=by simp[h2]
  simp only[↓CR,CS,yP,eI,↓br,aC,aw,Nat.reduceEqDiff,↓reduceIte,cI,cS,aW,iK,DR.val,jB,fx,iq,hH,DV.aY,Bool.false_eq_true,reduceCtorEq,e1,e2,fUn,Sq,h1,h2]
theorem afN:aF Tryz.prog 79 ai4:=by
 refine aF.oU (ps:=[(116,yN)]) (hs:=[]) ⟨Hv,trivial⟩ trivial MF λop a _=> ?_;by_cases h1:op=1
 ·subst h1;simp only[↓CR,CS,nu,eI,↓br,aC,aw,Nat.reduceEqDiff,↓reduceIte,cI,cS,aW,iK,DR.val,jB,fx,iq,hH,DV.aY,reduceCtorEq,IntKind.wrap_u64,IntKind.wrap_i64,beq_self_eq_true,List.cons.injEq,fUn,Sq];omega
 by_cases h2:op=2
 ·have e1:(op==1)=false:=by simp[h1]
  subst h2;simp only[↓CR,CS,nu,eI,↓br,aC,aw,Nat.reduceEqDiff,↓reduceIte,cI,cS,aW,iK,DR.val,jB,fx,iq,hH,DV.aY,List.map_cons,List.map_nil,Bool.false_eq_true,reduceCtorEq,bh,bn,cn,bX,bW,dE,beq_self_eq_true,Int.reduceBEq,Int.reduceEq,fUn,Sq,yO,EV]
 ·have e1:(op==1)=false:=by simp[h1]
  have e2:(op==2)=false:=by simp[h2]
  simp only[↓CR,CS,nu,eI,↓br,aC,aw,Nat.reduceEqDiff,↓reduceIte,cI,cS,aW,iK,DR.val,jB,fx,iq,hH,DV.aY,Bool.false_eq_true,reduceCtorEq,e1,e2,fUn,Sq,h1,h2]
def AZ(a b:Int):Prop×DV:=(gD a/\gD b/\b≠0,.cy [.int .i64 (IntKind.i64.wrap (a.tdiv b)),.int .i64 (a.tmod b)])
def J7:List DV->Prop×DV:=b5 eI eI AZ
def Hw(a b):=show J7 [.int .i64 a,.int .i64 b]=_ from aO b6 b6 _ _ _
theorem J8:aF Tryz.prog 180 J7:=by
 refine aF.oU (ps:=[]) (hs:=[]) trivial trivial MG λa b h=> ?_;obtain⟨ha,hb,h0⟩:=h;by_cases h1:b= -1
 ·have e1:(b== -1)=true:=by simp[h1]
  simp only[↓CR,CS,rY,eI,↓br,aC,aw,Nat.reduceEqDiff,↓reduceIte,cI,cS,IX,aW,iK,DR.val,jB,fx,iq,hH,DV.aY,reduceCtorEq,IntKind.wrap_i64,beq_self_eq_true,Int.reduceNeg,ne_eq,List.cons.injEq,AZ,h1];simp[Int.tdiv_neg,Int.tmod_neg]
 ·have e1:(b== -1)=false:=by simp[h1]
  simp only[↓CR,CS,rY,eI,↓br,aC,aw,Nat.reduceEqDiff,↓reduceIte,cI,cS,aW,iK,DR.val,jB,fx,iq,hH,DV.aY,Bool.false_eq_true,reduceCtorEq,IntKind.wrap_i64,Int.reduceNeg,ne_eq,e1,AZ,h0,ne_eq]
def Yi(a:Int):Prop×DV:=(gD a,.int .u64 a.natAbs)
def ab3:List DV->Prop×DV:=bB eI Yi
def SP(a):=show ab3 [.int .i64 a]=_ from aH b6 _ _
theorem Yj:aF Tryz.prog 162 ab3:=by
 refine aF.mo (ps:=[]) (hs:=[]) trivial trivial Hx λa h=> ?_;have h': -9223372036854775808<=a/\a<9223372036854775808:=h;by_cases h1:a<0
 ·simp only[↓CR,CS,pA,eI,↓br,aC,aw,↓reduceIte,cI,cS,aW,DR.val,jB,iq,hH,DV.aY,reduceCtorEq,IntKind.wrap_u64,Yi,h1];omega
 ·simp only[↓CR,CS,pA,eI,↓br,aC,aw,↓reduceIte,cI,cS,aW,DR.val,jB,iq,hH,DV.aY,Bool.false_eq_true,reduceCtorEq,IntKind.wrap_u64,Yi,h1];omega
theorem akj(a b:Int):a.tdiv b=(if decide (a<0)==decide (b<0)then((a.natAbs/b.natAbs:Nat):Int)else-((a.natAbs/b.natAbs:Nat):Int)):=by
 have key:∀m n:Nat,(m:Int).tdiv n=((m/n:Nat):Int):=λm n=>by simp
 by_cases ha:a<0<;>by_cases hb:b<0
 ·have h1:(a.natAbs:Int)= -a:=by omega
  have h2:(b.natAbs:Int)= -b:=by omega
  simp only[ha,hb,decide_true,BEq.rfl,if_true];rw[<-key,h1,h2,Int.neg_tdiv_neg]
 ·have h1:a= -(a.natAbs:Int):=by omega
  have h2:b=(b.natAbs:Int):=by omega
  simp only[ha,hb,decide_true,decide_false];simp only[show(true==false)=false from rfl,Bool.false_eq_true,if_false];rw[<-key,<-Int.neg_tdiv,<-h1,<-h2]
 ·have h1:a=(a.natAbs:Int):=by omega
  have h2:b= -(b.natAbs:Int):=by omega
  simp only[ha,hb,decide_true,decide_false];simp only[show(false==true)=false from rfl,Bool.false_eq_true,if_false];rw[<-key,<-Int.tdiv_neg,<-h1,<-h2]
 ·have h1:a=(a.natAbs:Int):=by omega
  have h2:b=(b.natAbs:Int):=by omega
  simp only[ha,hb,decide_false,BEq.rfl,if_true];rw[<-key,<-h1,<-h2]
def Yk(a b:Int):Prop×DV:=(gD a/\gD b/\b≠0,.int .i64 (IntKind.i64.wrap (a.tdiv b)))
def EX:List DV->Prop×DV:=b5 eI eI Yk
def Du(a b):=show EX [.int .i64 a,.int .i64 b]=_ from aO b6 b6 _ _ _
theorem MH:aF Tryz.prog 144 EX:=by
 refine aF.oU (ps:=[(162,ab3)]) (hs:=[]) ⟨Yj,trivial⟩ trivial zU λa b h=> ?_;obtain⟨ha,hb,h0⟩:=h;have bw:((b.natAbs:Nat):Int)≠0:=by omega
 have hd:((a.natAbs:Int).tdiv (b.natAbs:Int))=((a.natAbs/b.natAbs:Nat):Int):=by simp
 have hle:a.natAbs/b.natAbs<=a.natAbs:=Nat.div_le_self _ _;have auz:a.natAbs/b.natAbs<=9223372036854775808:=by unfold gD at ha;omega
 have hq:=akj a b;have oF:(if decide (a<0)==decide (b<0)then((a.natAbs/b.natAbs:Nat):Int)else-((a.natAbs/b.natAbs:Nat):Int))=a.tdiv b:=hq.symm;cases c:(decide (a<0)==decide (b<0))with
 |true=>
  rw[c]at hq;simp only[↓CR,CS,kU,eI,↓br,aC,aw,Nat.reduceEqDiff,↓reduceIte,cI,cS,MI,aW,DR.val,jB,iq,hH,DV.aY,List.map_cons,List.map_nil,Bool.false_eq_true,reduceCtorEq,IntKind.wrap_u64,IntKind.wrap_i64,bh,bn,cn,bX,bW,dE,ne_eq,SP,Yi,Yk,ha,hb,h0,bw,ne_eq,c,hd];simp only[if_true]at hq;rw[hq];generalize a.natAbs/b.natAbs=q at*;omega
 |false=>
  rw[c]at hq;simp only[↓CR,CS,kU,eI,↓br,aC,aw,Nat.reduceEqDiff,↓reduceIte,cI,cS,MI,aW,DR.val,jB,iq,hH,DV.aY,List.map_cons,List.map_nil,reduceCtorEq,IntKind.wrap_u64,IntKind.wrap_i64,bh,bn,cn,bX,bW,dE,ne_eq,SP,Yi,Yk,ha,hb,h0,bw,ne_eq,c,hd];simp only[Bool.false_eq_true,if_false]at hq;rw[hq];generalize a.natAbs/b.natAbs=q at*;omega
def CU(op a b:Int):Int×Int:=
 if op=3 then(IntKind.i64.wrap (a+b),0)else if op=4 then(IntKind.i64.wrap (a-b),0)else if op=5 then(IntKind.i64.wrap (a*b),0)else
 if b=0 then(0,15)else if op=6 then(IntKind.i64.wrap (a.tdiv b),0)else(a.tmod b,0)
def kq(op a b:Int):Prop×DV:=(gD a/\gD b,.cy [.int .i64 (CU op a b).1,.int .i64 (CU op a b).2])
def A0:List DV->Prop×DV:=eR eI eI eI kq
def Lx(op a b):=show A0 [.int .i64 op,.int .i64 a,.int .i64 b]=_ from bz b6 b6 b6 _ _ _ _
theorem akk(a b q):IntKind.i64.wrap ((a%18446744073709551616-b%18446744073709551616*(q%18446744073709551616)%18446744073709551616)%18446744073709551616)=IntKind.i64.wrap (a-b*q):=by refine J6 ?_;rw[<-Int.mul_emod b q];omega
theorem akl(a b):IntKind.i64.wrap (a%18446744073709551616*(b%18446744073709551616)%18446744073709551616)=IntKind.i64.wrap (a*b):=by refine J6 ?_;rw[<-Int.mul_emod a b];omega
theorem ags(a b q):IntKind.i64.wrap (a-b*IntKind.i64.wrap q)=IntKind.i64.wrap (a-b*q):=by refine J6 ?_;rw[Int.sub_emod,Int.mul_emod,aob,<-Int.mul_emod,<-Int.sub_emod]
theorem aoc{a b:Int}(h:gD a)(hb:gD b)(h0:b≠0):gD (a.tmod b):=by
 unfold gD at*;have h1:(a.tmod b).natAbs<b.natAbs:=by rw[Int.natAbs_tmod];exact Nat.mod_lt _ (by omega)
 omega
theorem MJ:aF Tryz.prog 159 A0:=by
 refine aF.uR (ps:=[(180,J7)]) (hs:=[]) ⟨J8,trivial⟩ trivial Pa λop a b h=> ?_;obtain⟨ha,hb⟩:=h;by_cases h3:op=3
 ·subst h3;simp only[↓CR,CS,iN,eI,↓br,aC,aw,Nat.reduceEqDiff,↓reduceIte,cI,cS,aW,iK,DR.val,jB,fx,iq,hH,DV.aY,reduceCtorEq,IntKind.wrap_i64,beq_self_eq_true,kq,CU]
 have e3:(op==3)=false:=by simp[h3]
 by_cases h4:op=4
 ·subst h4;simp only[↓CR,CS,iN,eI,↓br,aC,aw,Nat.reduceEqDiff,↓reduceIte,cI,cS,aW,iK,DR.val,jB,fx,iq,hH,DV.aY,Bool.false_eq_true,reduceCtorEq,IntKind.wrap_i64,beq_self_eq_true,Int.reduceBEq,Int.reduceEq,kq,CU]
 have e4:(op==4)=false:=by simp[h4]
 by_cases h5:op=5
 ·subst h5;simp only[↓CR,CS,iN,eI,↓br,aC,aw,Nat.reduceEqDiff,↓reduceIte,cI,cS,aW,iK,DR.val,jB,fx,iq,hH,DV.aY,Bool.false_eq_true,reduceCtorEq,IntKind.wrap_i64,beq_self_eq_true,Int.reduceBEq,Int.reduceEq,kq,CU]
 have e5:(op==5)=false:=by simp[h5]
 by_cases h0:b=0
 ·subst h0;simp only[↓CR,CS,iN,eI,↓br,aC,aw,Nat.reduceEqDiff,↓reduceIte,cI,cS,aW,iK,DR.val,jB,fx,iq,hH,DV.aY,Bool.false_eq_true,reduceCtorEq,beq_self_eq_true,kq,CU,e3,e4,e5,h3,h4,h5]
 have e0:(b==0)=false:=by simp[h0]
 by_cases h6:op=6
 ·subst h6;simp only[↓CR,CS,iN,eI,↓br,aC,aw,Nat.reduceEqDiff,Nat.reduceAdd,↓reduceIte,cI,cS,aW,iK,DR.val,jB,fx,iq,hH,DV.aY,List.map_cons,List.map_nil,Bool.false_eq_true,reduceCtorEq,List.length_cons,List.length_nil,List.getD_cons_zero,List.getD_cons_succ,Nat.reduceLT,IntKind.wrap_i64,bh,bn,cn,bX,bW,dE,List.all_cons,List.all_nil,beq_self_eq_true,Int.reduceBEq,Int.reduceEq,ne_eq,e0,h0,Hw,AZ,kq,CU,ha,hb]
 ·have e6:(op==6)=false:=by simp[h6]
  simp only[↓CR,CS,iN,eI,↓br,aC,aw,Nat.reduceEqDiff,Nat.reduceAdd,↓reduceIte,cI,cS,aW,iK,DR.val,jB,fx,iq,hH,DV.aY,List.map_cons,List.map_nil,Bool.false_eq_true,reduceCtorEq,List.length_cons,List.length_nil,List.getD_cons_zero,List.getD_cons_succ,Nat.reduceLT,IntKind.wrap_i64,bh,bn,cn,bX,bW,dE,List.all_cons,List.all_nil,ne_eq,e0,h0,Hw,AZ,kq,CU,ha,hb,e6,h6,e3,e4,e5,h3,h4,h5]
theorem RL:aF Tryz.prog 117 A0:=by
 refine aF.uR (ps:=[(144,EX)]) (hs:=[]) ⟨MH,trivial⟩ trivial CV λop a b h=> ?_;obtain⟨ha,hb⟩:=h;by_cases h3:op=3
 ·subst h3;simp only[↓CR,CS,dX,eI,↓br,aC,aw,Nat.reduceEqDiff,↓reduceIte,cI,cS,aW,iK,DR.val,jB,fx,iq,hH,DV.aY,reduceCtorEq,IntKind.wrap_u64,IntKind.wrap_i64,beq_self_eq_true,List.cons.injEq,kq,CU];omega
 have e3:(op==3)=false:=by simp[h3]
 by_cases h4:op=4
 ·subst h4;simp only[↓CR,CS,dX,eI,↓br,aC,aw,Nat.reduceEqDiff,↓reduceIte,cI,cS,aW,iK,DR.val,jB,fx,iq,hH,DV.aY,Bool.false_eq_true,reduceCtorEq,IntKind.wrap_u64,IntKind.wrap_i64,beq_self_eq_true,Int.reduceBEq,Int.reduceEq,List.cons.injEq,kq,CU];omega
 have e4:(op==4)=false:=by simp[h4]
 by_cases h5:op=5
 ·subst h5;simp only[↓CR,CS,dX,eI,↓br,aC,aw,Nat.reduceEqDiff,↓reduceIte,cI,cS,aW,iK,DR.val,jB,fx,iq,hH,DV.aY,Bool.false_eq_true,reduceCtorEq,IntKind.wrap_u64,IntKind.wrap_i64,beq_self_eq_true,Int.reduceBEq,Int.reduceEq,List.cons.injEq,kq,CU];have:=akl a b;simp only[aki]at this;exact this
 have e5:(op==5)=false:=by simp[h5]
 by_cases h0:b=0
 ·subst h0;simp only[↓CR,CS,dX,eI,↓br,aC,aw,Nat.reduceEqDiff,↓reduceIte,cI,cS,aW,iK,DR.val,jB,fx,iq,hH,DV.aY,Bool.false_eq_true,reduceCtorEq,beq_self_eq_true,kq,CU,e3,e4,e5,h3,h4,h5]
 have e0:(b==0)=false:=by simp[h0]
 by_cases h6:op=6
 ·subst h6;simp only[↓CR,CS,dX,eI,↓br,aC,aw,Nat.reduceEqDiff,↓reduceIte,cI,cS,aW,iK,DR.val,jB,fx,iq,hH,DV.aY,List.map_cons,List.map_nil,Bool.false_eq_true,reduceCtorEq,IntKind.wrap_i64,bh,bn,cn,bX,bW,dE,beq_self_eq_true,Int.reduceBEq,Int.reduceEq,ne_eq,e0,h0,Du,Yk,kq,CU,ha,hb]
 ·have e6:(op==6)=false:=by simp[h6]
  simp only[↓CR,CS,dX,eI,↓br,aC,aw,Nat.reduceEqDiff,↓reduceIte,cI,cS,aW,iK,DR.val,jB,fx,iq,hH,DV.aY,List.map_cons,List.map_nil,Bool.false_eq_true,reduceCtorEq,IntKind.wrap_u64,IntKind.wrap_i64,bh,bn,cn,bX,bW,dE,ne_eq,List.cons.injEq,e0,h0,Du,Yk,kq,CU,ha,hb,e6,h6,e3,e4,e5,h3,h4,h5];have h1:=akk a b (IntKind.i64.wrap (a.tdiv b));rw[ags]at h1;have h2:a-b*a.tdiv b=a.tmod b:=by have:=Int.mul_tdiv_add_tmod a b;omega
  rw[h2,arM (aoc ha hb h0)]at h1;simp only[aki]at h1;exact h1
def oP(op:Int):Int:=if 3<=op/\op<=7 then 1 else if 8<=op/\op<=10 then 2 else if 11<=op/\op<=12 then 4 else if 13<=op/\op<=16 then 3 else 0
def J9(op:Int):Prop×DV:=(True,.int .i64 (oP op))
def Vu:List DV->Prop×DV:=bB eI J9
theorem Pb(op):Vu [.int .i64 op]=J9 op:=aH b6 _ _
theorem Pc(op:Int):((op==1)=false/\(op==2)=false/\(op==3)=false/\(op==4)=false/\(op==5)=false/\(op==6)=false/\(op==7)=false/\(op==8)=false/\(op==9)=false/\(op==10)=false/\(op==11)=false/\(op==12)=false/\(op==13)=false/\(op==14)=false/\(op==15)=false/\(op==16)=false/\(op<1\/16<op))\/op=1\/op=2\/op=3\/op=4\/op=5\/op=6\/op=7\/op=8\/op=9\/op=10\/op=11\/op=12\/op=13\/op=14\/op=15\/op=16:=by simp only[beq_eq_false_iff_ne];omega
theorem Pf:aF Tryz.prog 158 Vu:=by
 refine aF.mo (ps:=[]) (hs:=[]) trivial trivial RM λop _=> ?_;rcases Pc op with⟨h1,h2,h3,h4,h5,h6,h7,h8,h9,Rc,h11,h12,h13,h14,h15,h16,hr⟩|rfl|rfl|rfl|rfl|rfl|rfl|rfl|rfl|rfl|rfl|rfl|rfl|rfl|rfl|rfl|rfl
 ·have e:oP op=0:=by unfold oP;split<;>first|omega|(split<;>first|omega|(split<;>first|omega|(split<;>omega)))
  simp only[↓CR,CS,wO,eI,↓br,aC,aw,Nat.reduceEqDiff,↓reduceIte,cI,cS,aW,DR.val,jB,iq,hH,DV.aY,Bool.false_eq_true,reduceCtorEq,J9,e,h3,h4,h5,h6,h7,h8,h9,Rc,h11,h12,h13,h14,h15,h16]
 all_goals simp only[↓CR,CS,wO,eI,↓br,aC,aw,Nat.reduceEqDiff,↓reduceIte,cI,cS,aW,DR.val,jB,iq,hH,DV.aY,Bool.false_eq_true,reduceCtorEq,Int.reduceLE,beq_self_eq_true,Int.reduceBEq,J9,oP]
def Vv(op a b:Int):Bool:=
 if op=8 then a !=0&&b !=0 else if op=9 then a !=0||b !=0 else if op=10 then(a !=0) !=(b !=0)else if op=11 then a==b else if op=12 then a !=b
 else if op=13 then decide (a<b)else if op=14 then decide (a<=b)else if op=15 then decide (b<a)else decide (b<=a)
def ab4(op a b:Int):Prop×DV:=(8<=op/\op<=16,.bool (Vv op a b))
def Vw:List DV->Prop×DV:=eR eI eI eI ab4
def ab5(op a b):=show Vw [.int .i64 op,.int .i64 a,.int .i64 b]=_ from bz b6 b6 b6 _ _ _ _
theorem Pg:aF Tryz.prog 160 Vw:=by
 refine aF.uR (ps:=[]) (hs:=[]) trivial trivial RN λop a b h=> ?_;have h':op=8\/op=9\/op=10\/op=11\/op=12\/op=13\/op=14\/op=15\/op=16:=by have:=h.1;have:=h.2;omega
 rcases h' with rfl|rfl|rfl|rfl|rfl|rfl|rfl|rfl|rfl<;>cases ca:(a !=0)<;>cases cb:(b !=0)<;>
  simp only[↓CR,CS,Dv,eI,↓br,aC,xL,aw,Nat.reduceEqDiff,↓reduceIte,bne_self_eq_false,cI,cS,MI,aW,DR.val,jB,iq,hH,DV.aY,Bool.false_eq_true,reduceCtorEq,Int.reduceLE,beq_self_eq_true,gt_iff_lt,ge_iff_le,Int.reduceBEq,Int.reduceEq,ab4,Vv,ca,cb]<;>rfl
def As(op a b:Int):Int×Int:=if 3<=op/\op<=7 then CU op a b else if 8<=op/\op<=16 then(tr (Vv op a b),0)else(0,1)
def abo(op a b:Int):Prop×DV:=(gD a/\gD b,.cy [.int .i64 (As op a b).1,.int .i64 (As op a b).2])
def Xi:List DV->Prop×DV:=eR eI eI eI abo
def Xj(op a b):=show Xi [.int .i64 op,.int .i64 a,.int .i64 b]=_ from bz b6 b6 b6 _ _ _ _
theorem UT:aF Tryz.prog 139 Xi:=by
 refine aF.uR (ps:=[(157,yN),(158,Vu),(159,A0),(160,Vw)]) (hs:=[]) ⟨AY,Pf,MJ,Pg,trivial⟩ trivial Yl λop a b h=> ?_;obtain⟨ha,hb⟩:=h;rcases Pc op with⟨h1,h2,h3,h4,h5,h6,h7,h8,h9,Rc,h11,h12,h13,h14,h15,h16,hr⟩|rfl|rfl|rfl|rfl|rfl|rfl|rfl|rfl|rfl|rfl|rfl|rfl|rfl|rfl|rfl|rfl
 ·have e:oP op=0:=by unfold oP;split<;>first|omega|(split<;>first|omega|(split<;>first|omega|(split<;>omega)))
  have e1:¬(3<=op/\op<=7):=by omega
  have e2:¬(8<=op/\op<=16):=by omega
  simp only[↓CR,CS,Ba,eI,↓br,aC,aw,Nat.reduceEqDiff,↓reduceIte,cI,cS,aW,iK,DR.val,jB,fx,iq,hH,DV.aY,List.map_cons,List.map_nil,reduceCtorEq,bh,bn,cn,bX,bW,dE,beq_self_eq_true,Pb,J9,e,abo,As,e1,e2]
 all_goals simp only[↓CR,CS,Ba,eI,↓br,aC,aw,Nat.reduceEqDiff,Nat.reduceAdd,↓reduceIte,cI,cS,aW,iK,DR.val,jB,fx,iq,hH,DV.aY,List.map_cons,List.map_nil,Bool.false_eq_true,reduceCtorEq,List.length_cons,List.length_nil,List.getD_cons_zero,List.getD_cons_succ,Int.reduceLE,Nat.reduceLT,bh,bn,cn,bX,bW,dE,List.all_cons,List.all_nil,beq_self_eq_true,Int.reduceBEq,Pb,J9,oP,abo,As,Lx,kq,ab5,ab4,yO,EV,ha,hb]
theorem abn:aF Tryz.prog 80 Xi:=by
 refine aF.uR (ps:=[(116,yN),(117,A0)]) (hs:=[]) ⟨Hv,RL,trivial⟩ trivial Ka λop a b h=> ?_;obtain⟨ha,hb⟩:=h;rcases Pc op with⟨h1,h2,h3,h4,h5,h6,h7,h8,h9,Rc,h11,h12,h13,h14,h15,h16,hr⟩|rfl|rfl|rfl|rfl|rfl|rfl|rfl|rfl|rfl|rfl|rfl|rfl|rfl|rfl|rfl|rfl
 ·have e1:¬(3<=op/\op<=7):=by omega
  have e2:¬(8<=op/\op<=16):=by omega
  simp only[↓CR,CS,qn,eI,↓br,aC,aw,Nat.reduceEqDiff,↓reduceIte,cI,cS,aW,iK,DR.val,jB,fx,iq,hH,DV.aY,Bool.false_eq_true,reduceCtorEq,abo,As,e1,e2,h3,h4,h5,h6,h7,h8,h9,Rc,h11,h12,h13,h14,h15,h16]
 all_goals cases ca:(a !=0)<;>cases cb:(b !=0)<;>simp only[↓CR,CS,qn,eI,↓br,aC,xL,aw,Nat.reduceEqDiff,Nat.reduceAdd,↓reduceIte,bne_self_eq_false,cI,cS,MI,aW,iK,DR.val,jB,fx,iq,hH,DV.aY,List.map_cons,List.map_nil,Bool.false_eq_true,reduceCtorEq,List.length_cons,List.length_nil,List.getD_cons_zero,List.getD_cons_succ,Int.reduceLE,Nat.reduceLT,bh,bn,cn,bX,bW,dE,List.all_cons,List.all_nil,beq_self_eq_true,gt_iff_lt,ge_iff_le,Int.reduceBEq,Int.reduceEq,List.cons.injEq,abo,As,Lx,kq,Vv,yO,EV,ha,hb,ca,cb]<;>rfl
def fA(l:List En)(s:List UInt8):Ty×Int×Bool:=
 if s=[116,114,117,101]then(⟨2,0,0⟩,1,true)else if s=[102,97,108,115,101]then(⟨2,0,0⟩,0,true)
 else if(lv s (kr 0 l)).2.2 then(⟨3,(lv s (kr 0 l)).1,0⟩,(lv s (kr 0 l)).2.1,true)else(⟨0,0,0⟩,0,false)
def xC:List DV->Prop×DV:=b5 lN eS λl s=>(AJ l,.cy [.agg (cK (fA l s).1),.int .i64 (fA l s).2.1,.bool (fA l s).2.2])
def nh(l:List En)(s):=show xC [.sl (l.map jQ),.str s]=_ from aO mr ik _ l s
theorem cG:aF Tryz.prog 97 xC:=by
 refine aF.oU (ps:=[(129,ab6)]) (hs:=[]) ⟨EY,trivial⟩ trivial Kb λl s h=> ?_;try dsimp only at h
 have e1:=agt l s;rw[eq_true h]at e1;have ha:fA l s=if s=[116,114,117,101]then(⟨2,0,0⟩,1,true)else if s=[102,97,108,115,101]then(⟨2,0,0⟩,0,true)
  else if(lv s (kr 0 l)).2.2 then(⟨3,(lv s (kr 0 l)).1,0⟩,(lv s (kr 0 l)).2.1,true)else(⟨0,0,0⟩,0,false):=rfl
 generalize lv s (kr 0 l)=c at*;obtain⟨c1,c2,c3⟩:=c;simp only[aer]at e1 ha;cases c3<;>((try unfold xM);((have az:=Bool.and_self;refine aL.of ?_);(repeat' (first|((with_reducible refine aL.to ?_);(repeat(simp only[↓rP,rT,rU,eS,eL,bZ,aC,aw,cI,Vx,IX,bA,aI,aW,iK,DR.val,jB,fx,iq,hH,DV.aY,bh,bn,cn,bX,bW,dE,lY,DV.one,tJ,cellsOf,setFrom,DV.isU,Nat.reduceEqDiff,Nat.reduceAdd,↓reduceIte,reduceCtorEq,Nat.reduceLeDiff,Nat.reduceLT,forall_const,lN,e1,az])))|(((((with_reducible refine cN (t:= ?_) ?_ (λcZ=> ?_) (λcZ=> ?_));rotate_left; . (rfl)))<;>(have hn:=cZ;have az:=cZ)<;>(try simp only[beq_iff_eq,ne_eq,beq_eq_false_iff_ne]at hn)<;>(refine aL.of ?_)))|fail))));all_goals grind
abbrev qi:List Ty->DV:=eL cK
theorem Nb:rJ qi:=Al Nf
def vz(op:Int)(t:Ty):Ty×Bool:=if op=1/\mT t ⟨1,0,0⟩=true then(⟨1,0,0⟩,true)else if op=2/\mT t ⟨2,0,0⟩=true then(⟨2,0,0⟩,true)else(⟨0,0,0⟩,false)
def Vm:List DV->Prop×DV:=b5 eI tW λo t=>(True,.cy [.agg (cK (vz o t).1),.bool (vz o t).2])
def abR(o)(t):=show Vm [.int .i64 o,.agg (cK t)]=_ from aO b6 qf _ o t
def dB(op:Int)(t u:Ty):Ty×Bool:=
 if oP op=1 then(if mT t ⟨1,0,0⟩&&mT u ⟨1,0,0⟩then(⟨1,0,0⟩,true)else(⟨0,0,0⟩,false))
 else if oP op=2 then(if mT t ⟨2,0,0⟩&&mT u ⟨2,0,0⟩then(⟨2,0,0⟩,true)else(⟨0,0,0⟩,false))
 else if oP op=3 then(if mT t ⟨1,0,0⟩&&mT u ⟨1,0,0⟩then(⟨2,0,0⟩,true)else(⟨0,0,0⟩,false))
 else if oP op=4 then(if mT t u&&t.n==0 then(⟨2,0,0⟩,true)else(⟨0,0,0⟩,false))
 else(⟨0,0,0⟩,false)
def OZ:List DV->Prop×DV:=eR eI tW tW λo t u=>(True,.cy [.agg (cK (dB o t u).1),.bool (dB o t u).2])
theorem X5(o)(t)(u):OZ [.int .i64 o,.agg (cK t),.agg (cK u)]=(True,.cy [.agg (cK (dB o t u).1),.bool (dB o t u).2]):=bz b6 qf qf _ o t u
end
end Go.Proofs.YtcokmopocppmiaaGreat

/- The operators: what each function tells. -/
import Derived.Test.YtldnkkkooabaeaaGreatExC
import Derived.Test.YtldnkkkooabaeaaGreatTxK
import Derived.Test.YtldnkkkooabaeaaGreatEqT
set_option linter.all false
set_option maxRecDepth 20000
namespace Go.Proofs.YtldnkkkooabaeaaGreat
noncomputable section
open Go.Nk
def tr(b:Bool):Int:=if b then 1 else 0
def ij(x:Int):Prop:= -9223372036854775808<=x/\x<9223372036854775808
def ao7(x):=show IntKind.i64.wrap x=_ from IntKind.wrap_i64 x
theorem axr{x}(h:ij x):IntKind.i64.wrap x=x:=by unfold ij at h;rw[IntKind.wrap_i64];omega
theorem Mm{x y}(h:x%18446744073709551616=y%18446744073709551616):IntKind.i64.wrap x=IntKind.i64.wrap y:=by rw[IntKind.wrap_i64,IntKind.wrap_i64];omega
theorem ata(x):IntKind.i64.wrap x%18446744073709551616=x%18446744073709551616:=by rw[IntKind.wrap_i64];omega
def GX(b:Bool):Prop×J:=(True,.int .i64 (tr b))
def Av:Ab->Prop×J:=bJ eB GX
def Aw(b):=show Av [.bool b]=_ from aI aAv _ _
theorem ayY:aJ Tryz.prog 147 Av:=by refine aJ.mS (ps:=[]) (I:=[]) trivial trivial aGP λb _=>?_;cases b<;>simp only[↓EE,EF,avA,eB,↓bG,aB,au,↓reduceIte,aS,DR.val,j0,iD,ik,J.bl,AN,reduceCtorEq,GX,tr]
theorem ayZ:aJ Tryz.prog 142 Av:=by refine aJ.mS (ps:=[]) (I:=[]) trivial trivial aGK λb _=>?_;cases b<;>simp only[↓EE,EF,avx,eB,↓bG,aB,au,↓reduceIte,aS,DR.val,j0,iD,ik,J.bl,AN,reduceCtorEq,GX,tr]
def UB(op a:Int):Int×Int:=if op=1 then(IntKind.i64.wrap (0-a),0)else if op=2 then(tr (a==0),0)else(0,1)
def O8(op a:Int):Prop×J:=(True,.b9 [.int .i64 (UB op a).1,.int .i64 (UB op a).2])
def ch:Ab->Prop×J:=cH eI eI O8
def ahH(op a):=show ch [.int .i64 op,.int .i64 a]=_ from aY cF cF _ _ _
theorem aaJ:aJ Tryz.prog 119 ch:=by
 refine aJ.se (ps:=[(147,Av)]) (I:=[]) ⟨ayY,BB⟩ trivial afU λop a _=>?_;by_cases h1:op=1
 .subst h1;simp only[↓EE,EF,Ax,eI,↓bG,aB,au,Nat.reduceEqDiff,↓reduceIte,cN,cX,FE,aS,iN,DR.val,j0,fH,iD,ik,J.bl,reduceCtorEq,IntKind.wrap_i64,abi,O8,UB]
 by_cases h2:op=2
 .have Y:(op==1)=false:=by simp[h1]
  subst h2;simp only[↓EE,EF,Ax,eI,↓bG,aB,au,Nat.reduceEqDiff,↓reduceIte,cN,cX,aS,iN,DR.val,j0,fH,iD,ik,J.bl,p0,DD,AN,reduceCtorEq,bj,bq,cz,b8,bX,dC,abi,Int.reduceBEq,Int.reduceEq,O8,UB,Aw,GX]
 .have Y:(op==1)=false:=by simp[h1]
  have e2:(op==2)=false:=by simp[h2]
  simp only[↓EE,EF,Ax,eI,↓bG,aB,au,Nat.reduceEqDiff,↓reduceIte,cN,cX,aS,iN,DR.val,j0,fH,iD,ik,J.bl,AN,reduceCtorEq,Y,e2,O8,UB,h1,h2]
theorem aj7:aJ Tryz.prog 111 ch:=by
 refine aJ.se (ps:=[(142,Av)]) (I:=[]) ⟨ayZ,BB⟩ trivial aGc λop a _=>?_;by_cases h1:op=1
 .subst h1;simp only[↓EE,EF,o6,eI,↓bG,aB,au,Nat.reduceEqDiff,↓reduceIte,cN,cX,aS,iN,DR.val,j0,fH,iD,ik,J.bl,reduceCtorEq,IntKind.wrap_u64,IntKind.wrap_i64,abi,DO,O8,UB];omega
 by_cases h2:op=2
 .have Y:(op==1)=false:=by simp[h1]
  subst h2;simp only[↓EE,EF,o6,eI,↓bG,aB,au,Nat.reduceEqDiff,↓reduceIte,cN,cX,aS,iN,DR.val,j0,fH,iD,ik,J.bl,p0,DD,AN,reduceCtorEq,bj,bq,cz,b8,bX,dC,abi,Int.reduceBEq,Int.reduceEq,O8,UB,Aw,GX]
 .have Y:(op==1)=false:=by simp[h1]
  have e2:(op==2)=false:=by simp[h2]
  simp only[↓EE,EF,o6,eI,↓bG,aB,au,Nat.reduceEqDiff,↓reduceIte,cN,cX,aS,iN,DR.val,j0,fH,iD,ik,J.bl,AN,reduceCtorEq,Y,e2,O8,UB,h1,h2]
def CA(a b:Int):Prop×J:=(ij a/\ij b/\b≠0,.b9 [.int .i64 (IntKind.i64.wrap (a.tdiv b)),.int .i64 (a.tmod b)])
def Mn:Ab->Prop×J:=cH eI eI CA
def ay0(a b):=show Mn [.int .i64 a,.int .i64 b]=_ from aY cF cF _ _ _
theorem aIo:aJ Tryz.prog 166 Mn:=by
 refine aJ.se (ps:=[]) (I:=[]) trivial trivial aG8 λa b h=>?_;obtain⟨ha,hb,h0⟩:=h;by_cases h1:b= -1
 .have Y:(b== -1)=true:=by simp[h1]
  simp only[↓EE,EF,ua,eI,↓bG,aB,au,Nat.reduceEqDiff,↓reduceIte,cN,cX,FE,aS,iN,DR.val,j0,fH,iD,ik,J.bl,reduceCtorEq,IntKind.wrap_i64,abi,Int.reduceNeg,Br,DO,CA,h1];simp_all
 .have Y:(b== -1)=false:=by simp[h1]
  simp only[↓EE,EF,ua,eI,↓bG,aB,au,Nat.reduceEqDiff,↓reduceIte,cN,cX,aS,iN,DR.val,j0,fH,iD,ik,J.bl,AN,reduceCtorEq,IntKind.wrap_i64,Int.reduceNeg,Br,Y,CA,h0,Br]
def cm(a:Int):Prop×J:=(ij a,.int .u64 a.natAbs)
def _8:Ab->Prop×J:=bJ eI cm
def ay1(a):=show _8 [.int .i64 a]=_ from aI cF _ _
theorem abS:aJ Tryz.prog 184 _8:=by
 refine aJ.mS (ps:=[]) (I:=[]) trivial trivial aHp λa h=>?_;have h': -9223372036854775808<=a/\a<9223372036854775808:=h;by_cases h1:a<0
 .simp only[↓EE,EF,qV,eI,↓bG,aB,au,↓reduceIte,cN,cX,aS,DR.val,j0,iD,ik,J.bl,reduceCtorEq,IntKind.wrap_u64,cm,h1];omega
 .simp only[↓EE,EF,qV,eI,↓bG,aB,au,↓reduceIte,cN,cX,aS,DR.val,j0,iD,ik,J.bl,AN,reduceCtorEq,IntKind.wrap_u64,cm,h1];omega
theorem ao8(a b:Int):a.tdiv b=(if decide (a<0)==decide (b<0)then((a.natAbs/b.natAbs:Nat):Int)else-((a.natAbs/b.natAbs:Nat):Int)):=by
 have key:∀m n:Nat,(m:Int).tdiv n=((m/n:Nat):Int):=λm n=>by simp
 by_cases ha:a<0<;>by_cases hb:b<0
 .have h1:(a.natAbs:Int)= -a:=by omega
  have h2:(b.natAbs:Int)= -b:=by omega
  simp only[ha,hb,Hm,BEq.rfl,Bp];rw[<-key,h1,h2,Int.neg_tdiv_neg]
 .have h1:a= -(a.natAbs:Int):=by omega
  have h2:b=(b.natAbs:Int):=by omega
  simp only[ha,hb,Hm,decide_false];simp only[show(true==false)=false from rfl,AN,Bv];rw[<-key,<-Int.neg_tdiv,<-h1,<-h2]
 .have h1:a=(a.natAbs:Int):=by omega
  have h2:b= -(b.natAbs:Int):=by omega
  simp only[ha,hb,Hm,decide_false];simp only[show(false==true)=false from rfl,AN,Bv];rw[<-key,<-Int.tdiv_neg,<-h1,<-h2]
 grind
def cp(a b:Int):Prop×J:=(ij a/\ij b/\b≠0,.int .i64 (IntKind.i64.wrap (a.tdiv b)))
def GZ:Ab->Prop×J:=cH eI eI cp
def ay2(a b):=show GZ [.int .i64 a,.int .i64 b]=_ from aY cF cF _ _ _
theorem aIp:aJ Tryz.prog 164 GZ:=by
 refine aJ.se (ps:=[(184,_8)]) (I:=[]) ⟨abS,BB⟩ trivial aG6 λa b h=>?_;obtain⟨ha,hb,h0⟩:=h;have bP:((b.natAbs:Nat):Int)≠0:=by omega
 have Z:((a.natAbs:Int).tdiv (b.natAbs:Int))=((a.natAbs/b.natAbs:Nat):Int):=by simp
 have hle:a.natAbs/b.natAbs<=a.natAbs:=Nat.div_le_self _ _;have aAb:a.natAbs/b.natAbs<=9223372036854775808:=by unfold ij at ha;omega
 have hq:=ao8 a b;have xo:(if decide (a<0)==decide (b<0)then((a.natAbs/b.natAbs:Nat):Int)else-((a.natAbs/b.natAbs:Nat):Int))=a.tdiv b:=hq.symm;cases c:(decide (a<0)==decide (b<0))with
 |true=>
  rw[c]at hq;simp only[↓EE,EF,mn,eI,↓bG,aB,au,Nat.reduceEqDiff,↓reduceIte,cN,cX,JV,aS,DR.val,j0,iD,ik,J.bl,p0,DD,AN,reduceCtorEq,IntKind.wrap_u64,IntKind.wrap_i64,bj,bq,cz,b8,bX,dC,Br,ay1,cm,cp,ha,hb,h0,bP,Br,c,Z];simp_all
 |false=>
  rw[c]at hq;simp only[↓EE,EF,mn,eI,↓bG,aB,au,Nat.reduceEqDiff,↓reduceIte,cN,cX,JV,aS,DR.val,j0,iD,ik,J.bl,p0,DD,reduceCtorEq,IntKind.wrap_u64,IntKind.wrap_i64,bj,bq,cz,b8,bX,dC,Br,ay1,cm,cp,ha,hb,h0,bP,Br,c,Z];grind
def EG(op a b:Int):Int×Int:=
 if op=3 then(IntKind.i64.wrap (a+b),0)else if op=4 then(IntKind.i64.wrap (a-b),0)else if op=5 then(IntKind.i64.wrap (a*b),0)else
 if b=0 then(0,15)else if op=6 then(IntKind.i64.wrap (a.tdiv b),0)else(a.tmod b,0)
def lJ(op a b:Int):Prop×J:=(ij a/\ij b,.b9 [.int .i64 (EG op a b).1,.int .i64 (EG op a b).2])
def CB:Ab->Prop×J:=fp eI eI eI lJ
def ay3(op a b):=show CB [.int .i64 op,.int .i64 a,.int .i64 b]=_ from bW cF cF cF _ _ _ _
theorem ao9(a b q):IntKind.i64.wrap ((a%18446744073709551616-b%18446744073709551616*(q%18446744073709551616)%18446744073709551616)%18446744073709551616)=IntKind.i64.wrap (a-b*q):=by refine Mm ?_;rw[<-Int.mul_emod b q];omega
theorem apa(a b):IntKind.i64.wrap (a%18446744073709551616*(b%18446744073709551616)%18446744073709551616)=IntKind.i64.wrap (a*b):=by grind[Mm,Int.mul_emod]
theorem akD(a b q):IntKind.i64.wrap (a-b*IntKind.i64.wrap q)=IntKind.i64.wrap (a-b*q):=by grind[Mm,Int.sub_emod,Int.mul_emod,ata]
theorem atb{a b:Int}(h:ij a)(hb:ij b)(h0:b≠0):ij (a.tmod b):=by
 unfold ij at*;have h1:(a.tmod b).natAbs<b.natAbs:=by simp_all[Int.natAbs_tmod,Nat.mod_lt]
 omega
theorem aIq:aJ Tryz.prog 149 CB:=by
 refine aJ.zP (ps:=[(166,Mn)]) (I:=[]) ⟨aIo,BB⟩ trivial aGR λop a b h=>?_;obtain⟨ha,hb⟩:=h;by_cases h3:op=3
 .subst h3;simp only[↓EE,EF,jC,eI,↓bG,aB,au,Nat.reduceEqDiff,↓reduceIte,cN,cX,aS,iN,DR.val,j0,fH,iD,ik,J.bl,reduceCtorEq,IntKind.wrap_i64,abi,lJ,EG]
 have e3:(op==3)=false:=by simp[h3]
 by_cases h4:op=4
 .subst h4;simp only[↓EE,EF,jC,eI,↓bG,aB,au,Nat.reduceEqDiff,↓reduceIte,cN,cX,aS,iN,DR.val,j0,fH,iD,ik,J.bl,AN,reduceCtorEq,IntKind.wrap_i64,abi,Int.reduceBEq,Int.reduceEq,lJ,EG]
 have e4:(op==4)=false:=by simp[h4]
 by_cases h5:op=5
 .subst h5;simp only[↓EE,EF,jC,eI,↓bG,aB,au,Nat.reduceEqDiff,↓reduceIte,cN,cX,aS,iN,DR.val,j0,fH,iD,ik,J.bl,AN,reduceCtorEq,IntKind.wrap_i64,abi,Int.reduceBEq,Int.reduceEq,lJ,EG]
 have e5:(op==5)=false:=by simp[h5]
 by_cases h0:b=0
 .subst h0;simp only[↓EE,EF,jC,eI,↓bG,aB,au,Nat.reduceEqDiff,↓reduceIte,cN,cX,aS,iN,DR.val,j0,fH,iD,ik,J.bl,AN,reduceCtorEq,abi,lJ,EG,e3,e4,e5,h3,h4,h5]
 have e0:(b==0)=false:=by simp[h0]
 by_cases h6:op=6
 .subst h6;simp only[↓EE,EF,jC,eI,↓bG,aB,au,Nat.reduceEqDiff,Nat.reduceAdd,↓reduceIte,cN,cX,aS,iN,DR.val,j0,fH,iD,ik,J.bl,p0,DD,AN,reduceCtorEq,IS,Cd,OF,Ca,Nat.reduceLT,IntKind.wrap_i64,bj,bq,cz,b8,bX,dC,MM,C1,abi,Int.reduceBEq,Int.reduceEq,Br,e0,h0,ay0,CA,lJ,EG,ha,hb]
 .have e6:(op==6)=false:=by simp[h6]
  simp only[↓EE,EF,jC,eI,↓bG,aB,au,Nat.reduceEqDiff,Nat.reduceAdd,↓reduceIte,cN,cX,aS,iN,DR.val,j0,fH,iD,ik,J.bl,p0,DD,AN,reduceCtorEq,IS,Cd,OF,Ca,Nat.reduceLT,IntKind.wrap_i64,bj,bq,cz,b8,bX,dC,MM,C1,Br,e0,h0,ay0,CA,lJ,EG,ha,hb,e6,h6,e3,e4,e5,h3,h4,h5]
theorem aIr:aJ Tryz.prog 143 CB:=by
 refine aJ.zP (ps:=[(164,GZ)]) (I:=[]) ⟨aIp,BB⟩ trivial aGL λop a b h=>?_;obtain⟨ha,hb⟩:=h;by_cases h3:op=3
 .subst h3;simp only[↓EE,EF,eW,eI,↓bG,aB,au,Nat.reduceEqDiff,↓reduceIte,cN,cX,aS,iN,DR.val,j0,fH,iD,ik,J.bl,reduceCtorEq,IntKind.wrap_u64,IntKind.wrap_i64,abi,DO,lJ,EG];omega
 have e3:(op==3)=false:=by simp[h3]
 by_cases h4:op=4
 .subst h4;simp only[↓EE,EF,eW,eI,↓bG,aB,au,Nat.reduceEqDiff,↓reduceIte,cN,cX,aS,iN,DR.val,j0,fH,iD,ik,J.bl,AN,reduceCtorEq,IntKind.wrap_u64,IntKind.wrap_i64,abi,Int.reduceBEq,Int.reduceEq,DO,lJ,EG];omega
 have e4:(op==4)=false:=by simp[h4]
 by_cases h5:op=5
 .subst h5;simp only[↓EE,EF,eW,eI,↓bG,aB,au,Nat.reduceEqDiff,↓reduceIte,cN,cX,aS,iN,DR.val,j0,fH,iD,ik,J.bl,AN,reduceCtorEq,IntKind.wrap_u64,IntKind.wrap_i64,abi,Int.reduceBEq,Int.reduceEq,DO,lJ,EG];have:=apa a b;simp only[ao7]at this;exact this
 have e5:(op==5)=false:=by simp[h5]
 by_cases h0:b=0
 .subst h0;simp only[↓EE,EF,eW,eI,↓bG,aB,au,Nat.reduceEqDiff,↓reduceIte,cN,cX,aS,iN,DR.val,j0,fH,iD,ik,J.bl,AN,reduceCtorEq,abi,lJ,EG,e3,e4,e5,h3,h4,h5]
 have e0:(b==0)=false:=by simp[h0]
 by_cases h6:op=6
 .subst h6;simp only[↓EE,EF,eW,eI,↓bG,aB,au,Nat.reduceEqDiff,↓reduceIte,cN,cX,aS,iN,DR.val,j0,fH,iD,ik,J.bl,p0,DD,AN,reduceCtorEq,IntKind.wrap_i64,bj,bq,cz,b8,bX,dC,abi,Int.reduceBEq,Int.reduceEq,Br,e0,h0,ay2,cp,lJ,EG,ha,hb]
 .have e6:(op==6)=false:=by simp[h6]
  simp only[↓EE,EF,eW,eI,↓bG,aB,au,Nat.reduceEqDiff,↓reduceIte,cN,cX,aS,iN,DR.val,j0,fH,iD,ik,J.bl,p0,DD,AN,reduceCtorEq,IntKind.wrap_u64,IntKind.wrap_i64,bj,bq,cz,b8,bX,dC,Br,DO,e0,h0,ay2,cp,lJ,EG,ha,hb,e6,h6,e3,e4,e5,h3,h4,h5];have h1:=ao9 a b (IntKind.i64.wrap (a.tdiv b));rw[akD]at h1;have h2:a-b*a.tdiv b=a.tmod b:=by have:=Int.mul_tdiv_add_tmod a b;omega
  simp_all[axr,atb,ao7]
def qj(op:Int):Int:=if 3<=op/\op<=7 then 1 else if 8<=op/\op<=10 then 2 else if 11<=op/\op<=12 then 4 else if 13<=op/\op<=16 then 3 else 0
def Mp(op:Int):Prop×J:=(True,.int .i64 (qj op))
def YL:Ab->Prop×J:=bJ eI Mp
theorem ay4(op):YL [.int .i64 op]=Mp op:=aI cF _ _
theorem Sq(op:Int):((op==1)=false/\(op==2)=false/\(op==3)=false/\(op==4)=false/\(op==5)=false/\(op==6)=false/\(op==7)=false/\(op==8)=false/\(op==9)=false/\(op==10)=false/\(op==11)=false/\(op==12)=false/\(op==13)=false/\(op==14)=false/\(op==15)=false/\(op==16)=false/\(op<1\/16<op))\/op=1\/op=2\/op=3\/op=4\/op=5\/op=6\/op=7\/op=8\/op=9\/op=10\/op=11\/op=12\/op=13\/op=14\/op=15\/op=16:=by grind
theorem aIs:aJ Tryz.prog 148 YL:=by
 refine aJ.mS (ps:=[]) (I:=[]) trivial trivial aGQ λop _=>?_;rcases Sq op with⟨h1,h2,h3,h4,h5,h6,h7,h8,h9,Ua,Jv,uh,ui,uj,uk,um,E⟩|rfl|rfl|rfl|rfl|rfl|rfl|rfl|rfl|rfl|rfl|rfl|rfl|rfl|rfl|rfl|rfl
 .have e:qj op=0:=by grind[qj]
  simp only[↓EE,EF,ye,eI,↓bG,aB,au,Nat.reduceEqDiff,↓reduceIte,cN,cX,aS,DR.val,j0,iD,ik,J.bl,AN,reduceCtorEq,Mp,e,h3,h4,h5,h6,h7,h8,h9,Ua,Jv,uh,ui,uj,uk,um]
 all_goals simp only[↓EE,EF,ye,eI,↓bG,aB,au,Nat.reduceEqDiff,↓reduceIte,cN,cX,aS,DR.val,j0,iD,ik,J.bl,AN,reduceCtorEq,Int.reduceLE,abi,Int.reduceBEq,Mp,qj]
def YM(op a b:Int):Bool:=
 if op=8 then a !=0&&b !=0 else if op=9 then a !=0||b !=0 else if op=10 then(a !=0) !=(b !=0)else if op=11 then a==b else if op=12 then a !=b
 else if op=13 then decide (a<b)else if op=14 then decide (a<=b)else if op=15 then decide (b<a)else decide (b<=a)
def _9(op a b:Int):Prop×J:=(8<=op/\op<=16,.bool (YM op a b))
def YN:Ab->Prop×J:=fp eI eI eI _9
def afX(op a b):=show YN [.int .i64 op,.int .i64 a,.int .i64 b]=_ from bW cF cF cF _ _ _ _
theorem aIt:aJ Tryz.prog 150 YN:=by
 refine aJ.zP (ps:=[]) (I:=[]) trivial trivial aGS λop a b h=>?_;have h':op=8\/op=9\/op=10\/op=11\/op=12\/op=13\/op=14\/op=15\/op=16:=by have:=h.1;have:=h.2;omega
 rcases h' with rfl|rfl|rfl|rfl|rfl|rfl|rfl|rfl|rfl<;>cases ca:(a !=0)<;>cases cb:(b !=0)<;>
  simp only[↓EE,EF,avB,eI,↓bG,aB,zk,au,Nat.reduceEqDiff,↓reduceIte,bne_self_eq_false,cN,cX,JV,aS,DR.val,j0,iD,ik,J.bl,AN,reduceCtorEq,Int.reduceLE,abi,gt_iff_lt,ge_iff_le,Int.reduceBEq,Int.reduceEq,_9,YM,ca,cb]<;>rfl
def Bq(op a b:Int):Int×Int:=if 3<=op/\op<=7 then EG op a b else if 8<=op/\op<=16 then(tr (YM op a b),0)else(0,1)
def TW(op a b:Int):Prop×J:=(ij a/\ij b,.b9 [.int .i64 (Bq op a b).1,.int .i64 (Bq op a b).2])
def dO:Ab->Prop×J:=fp eI eI eI TW
def aaK(op a b):=show dO [.int .i64 op,.int .i64 a,.int .i64 b]=_ from bW cF cF cF _ _ _ _
theorem aIv:aJ Tryz.prog 121 dO:=by
 refine aJ.zP (ps:=[(147,Av),(148,YL),(149,CB),(150,YN)]) (I:=[]) ⟨ayY,aIs,aIq,aIt,BB⟩ trivial abU λop a b h=>?_;obtain⟨ha,hb⟩:=h;rcases Sq op with⟨h1,h2,h3,h4,h5,h6,h7,h8,h9,Ua,Jv,uh,ui,uj,uk,um,E⟩|rfl|rfl|rfl|rfl|rfl|rfl|rfl|rfl|rfl|rfl|rfl|rfl|rfl|rfl|rfl|rfl
 .have e:qj op=0:=by grind[qj]
  have Y:¬(3<=op/\op<=7):=by omega
  have e2:¬(8<=op/\op<=16):=by omega
  simp only[↓EE,EF,CC,eI,↓bG,aB,au,Nat.reduceEqDiff,↓reduceIte,cN,cX,aS,iN,DR.val,j0,fH,iD,ik,J.bl,p0,DD,reduceCtorEq,bj,bq,cz,b8,bX,dC,abi,ay4,Mp,e,TW,Bq,Y,e2]
 all_goals simp only[↓EE,EF,CC,eI,↓bG,aB,au,Nat.reduceEqDiff,Nat.reduceAdd,↓reduceIte,cN,cX,aS,iN,DR.val,j0,fH,iD,ik,J.bl,p0,DD,AN,reduceCtorEq,IS,Cd,OF,Ca,Int.reduceLE,Nat.reduceLT,bj,bq,cz,b8,bX,dC,MM,C1,abi,Int.reduceBEq,ay4,Mp,qj,TW,Bq,ay3,lJ,afX,_9,Aw,GX,ha,hb]
theorem afn:aJ Tryz.prog 112 dO:=by
 refine aJ.zP (ps:=[(142,Av),(143,CB)]) (I:=[]) ⟨ayZ,aIr,BB⟩ trivial aGe λop a b h=>?_;obtain⟨ha,hb⟩:=h;rcases Sq op with⟨h1,h2,h3,h4,h5,h6,h7,h8,h9,Ua,Jv,uh,ui,uj,uk,um,E⟩|rfl|rfl|rfl|rfl|rfl|rfl|rfl|rfl|rfl|rfl|rfl|rfl|rfl|rfl|rfl|rfl
 .have Y:¬(3<=op/\op<=7):=by omega
  have e2:¬(8<=op/\op<=16):=by omega
  simp only[↓EE,EF,sF,eI,↓bG,aB,au,Nat.reduceEqDiff,↓reduceIte,cN,cX,aS,iN,DR.val,j0,fH,iD,ik,J.bl,AN,reduceCtorEq,TW,Bq,Y,e2,h3,h4,h5,h6,h7,h8,h9,Ua,Jv,uh,ui,uj,uk,um]
 all_goals cases ca:(a !=0)<;>cases cb:(b !=0)<;>simp only[↓EE,EF,sF,eI,↓bG,aB,zk,au,Nat.reduceEqDiff,Nat.reduceAdd,↓reduceIte,bne_self_eq_false,cN,cX,JV,aS,iN,DR.val,j0,fH,iD,ik,J.bl,p0,DD,AN,reduceCtorEq,IS,Cd,OF,Ca,Int.reduceLE,Nat.reduceLT,bj,bq,cz,b8,bX,dC,MM,C1,abi,gt_iff_lt,ge_iff_le,Int.reduceBEq,Int.reduceEq,DO,TW,Bq,ay3,lJ,YM,Aw,GX,ha,hb,ca,cb]<;>rfl
def gH(l:List En)(s:B3):Ty×Int×Bool:=
 if s=[116,114,117,101]then(⟨2,0,0⟩,1,true)else if s=[102,97,108,115,101]then(⟨2,0,0⟩,0,true)
 else if(lV s (kN 0 l)).2.2 then(⟨3,(lV s (kN 0 l)).1,0⟩,(lV s (kN 0 l)).2.1,true)else(⟨0,0,0⟩,0,false)
def zc:Ab->Prop×J:=cH ky eS λl s=>(Gq l,.b9 [.agg (dE (gH l s).1),.int .i64 (gH l s).2.1,.bool (gH l s).2.2])
def oP(l:List En)(s):=show zc [.sl (l.map kF),.str s]=_ from aY my kj _ l s
theorem cZ:aJ Tryz.prog 104 zc:=by
 refine aJ.se (ps:=[(133,_7)]) (I:=[]) ⟨aIn,BB⟩ trivial aF0 λl s h=>?_;try dsimp only at h
 have Y:=akE l s;rw[lU h]at Y;have ha:gH l s=if s=[116,114,117,101]then(⟨2,0,0⟩,1,true)else if s=[102,97,108,115,101]then(⟨2,0,0⟩,0,true)
  else if(lV s (kN 0 l)).2.2 then(⟨3,(lV s (kN 0 l)).1,0⟩,(lV s (kN 0 l)).2.1,true)else(⟨0,0,0⟩,0,false):=rfl
 generalize lV s (kN 0 l)=c at*;obtain⟨c1,c2,c3⟩:=c;simp only[cd]at Y ha;cases c3<;>((try unfold au9);((have aF:=IT;refine aM.of ?_);(repeat' (first|((with_reducible refine aM.to ?_);(repeat(simp only[↓rP,rT,rU,eS,eL,bC,aB,au,cN,FL,FE,bw,aH,aS,iN,DR.val,j0,fH,iD,ik,J.bl,bj,bq,cz,b8,bX,dC,jN,J.one,ug,cellsOf,setFrom,J.D1,Nat.reduceEqDiff,Nat.reduceAdd,↓reduceIte,reduceCtorEq,Nat.reduceLeDiff,Nat.reduceLT,TO,ky,Y,aF])))|(((((with_reducible refine cP (t:= ?_) ?_ (λdp=>?_) (λdp=>?_));rotate_left; . (rfl)))<;>(have hn:=dp;have aF:=dp)<;>(try simp only[GO,Br,SO]at hn)<;>(refine aM.of ?_)))|fail))));all_goals grind
abbrev rJ:List Ty->J:=eL dE
theorem P1:ux rJ:=yu P4
def xb(op:Int)(t:Ty):Ty×Bool:=if op=1/\ow t ⟨1,0,0⟩=true then(⟨1,0,0⟩,true)else if op=2/\ow t ⟨2,0,0⟩=true then(⟨2,0,0⟩,true)else(⟨0,0,0⟩,false)
def YG:Ab->Prop×J:=cH eI sQ λo t=>(True,.b9 [.agg (dE (xb o t).1),.bool (xb o t).2])
def afJ(o)(t):=show YG [.int .i64 o,.agg (dE t)]=_ from aY cF qI _ o t
def dV(op:Int)(t u:Ty):Ty×Bool:=
 if qj op=1 then(if ow t ⟨1,0,0⟩&&ow u ⟨1,0,0⟩then(⟨1,0,0⟩,true)else(⟨0,0,0⟩,false))
 else if qj op=2 then(if ow t ⟨2,0,0⟩&&ow u ⟨2,0,0⟩then(⟨2,0,0⟩,true)else(⟨0,0,0⟩,false))
 else if qj op=3 then(if ow t ⟨1,0,0⟩&&ow u ⟨1,0,0⟩then(⟨2,0,0⟩,true)else(⟨0,0,0⟩,false))
 else if qj op=4 then(if ow t u&&t.n==0 then(⟨2,0,0⟩,true)else(⟨0,0,0⟩,false))
 else(⟨0,0,0⟩,false)
def Sb:Ab->Prop×J:=fp eI sQ sQ λo t u=>(True,.b9 [.agg (dE (dV o t u).1),.bool (dV o t u).2])
theorem abG(o)(t)(u):Sb [.int .i64 o,.agg (dE t),.agg (dE u)]=(True,.b9 [.agg (dE (dV o t u).1),.bool (dV o t u).2]):=bW cF qI qI _ o t u
end
end Go.Proofs.YtldnkkkooabaeaaGreat

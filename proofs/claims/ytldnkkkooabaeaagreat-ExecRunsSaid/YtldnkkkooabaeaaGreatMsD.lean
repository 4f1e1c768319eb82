/- What a Flow keeps, and which Flows it calls: iterators; how much in all. -/
import Derived.Test.YtldnkkkooabaeaaGreatMsA
set_option linter.all false
set_option maxRecDepth 20000
namespace Go.Proofs.YtldnkkkooabaeaaGreat
noncomputable section
open Go.Nk
theorem azk{α:Type}{l:List α}{n:Nat}{x:α}{r:List α}(h:l.drop n=x::r):l[n]? =some x/\l.drop (n+1)=r/\n+1<=l.length:=by grind[GK,Z8,Hk,tx]
theorem azm{α:Type}{l:List α}{n:Nat}(h:l.drop n=[])(hn:n<=l.length):n=l.length:=by have:=List.drop_eq_nil_iff.1 h;omega
def gF(q:Pl):Bool:=q.kind==5&&decide (0<q.names.length)
def zM(q:Pl):Ab:=[.agg (iK q)]
def xN:Ab->Prop×List Ab:=Fs (λf:Fl=>[.ref (lf f)]) λf=>(X6 f,(f.eqs.filter gF).map zM)
theorem al5:tP (λf:Fl=>[J.ref (lf f)]):=λx y h=>by grind[Dg]
theorem azp(f:Fl):xN [.ref (lf f)]=(X6 f,(f.eqs.filter gF).map zM):=acS al5 _ f
theorem azq:Ht Tryz.prog 109 xN:=by
 refine Ht.r0 (ps:=[]) (I:=[]) (is:=[]) trivial trivial trivial aF9 rfl (λ_=>rfl) λf l h=>?_;have h:f.eqs.length<=bN:=h;simp only[bN]at h;dsimp only;generalize wy:(f.eqs.filter gF).map zM=xs;refine WC @avc.eq_1 (JJ ?_);refine asZ f.eqs (λk (n:Nat)=>(⟨[(0,.P9 l),(6,.sl (f.eqs.map iK)),(7,.int .i64 f.eqs.length),(8,.int .i64 k)],[]⟩,some n)) (λk r n=>xs.drop n=(r.filter gF).map zM/\n<=xs.length) 0 CT ⟨by simp_all,AI _⟩ (λk x r n d U Z E=>?_) (λk n e E=>?_)
 .obtain⟨E,OA⟩:=E;rw[Cw]at E;refine WC (cL @ak d (ag iK U)) (cL ?_ ?_ (JJ ?_))<;>intros
  .have hf:gF x=true:=by simp_all [gF]<;>omega
   rw[gr hf,p0]at E;obtain⟨h1,h2,h3⟩:=azk E;exact⟨h1,n+1,CT,h2,h3⟩
  all_goals(have hf:¬gF x=true:=by simp_all [gF]
            rw[ba hf]at E;exact⟨n,CT,E,OA⟩)
 .obtain⟨E,OA⟩:=E;have e2:=azm E OA;exact WC (bV e e2) zz
def bt(at_:Int)(q:Pl):Bool:=q.kind==7&&(decide (0<q.names.length)&&(decide (0<=q.node)&&decide (q.node<at_)))
def ad(l:cT)(at_:Int):Fl:=l.fs.getD at_.toNat default
def vE(x:cT×Int):Prop:=0<=x.2/\x.2<x.1.fs.length/\aFU x.1
@[reducible] def aq8(x:cT×Int):Ab:=[.ref (cD x.1),.ref [.int .i64 x.2]]
def tL:Ab->Prop×List Ab:=Fs aq8 λx=>(vE x,((ad x.1 x.2).eqs.filter (bt x.2)).map zM)
theorem ahg:tP aq8:=λx y h=>by grind[BO]
theorem azr(l:cT)(at_:Int):tL [.ref (cD l),.ref [.int .i64 at_]]=(vE (l,at_),((ad l at_).eqs.filter (bt at_)).map zM):=acS ahg _ (l,at_)
theorem azs:Ht Tryz.prog 110 tL:=by
 refine Ht.r0 (ps:=[]) (I:=[]) (is:=[]) trivial trivial trivial aGb rfl (λ_=>rfl) λx l h=>?_;obtain⟨fl,at_⟩:=x;obtain⟨h0,h1,h2,h3⟩:=h;simp only at h0 h1 h2 h3;dsimp only;have hg:fl.fs[at_.toNat]? =some (ad fl at_):=by simp_all[ad]
 have h3:(ad fl at_).eqs.length<=bN:=h3 _ (ed hg);simp only[bN]at h3;generalize hf:ad fl at_=f at hg h3;generalize wy:(f.eqs.filter (bt at_)).map zM=xs;refine WC (bV @avf.eq_1 (ag lf hg)) (JJ ?_);refine asZ f.eqs (λk (n:Nat)=>(⟨[(0,.P9 l),(2,.ref [.int .i64 at_]),(12,.sl (f.eqs.map iK)),(13,.int .i64 f.eqs.length),(14,.int .i64 k)],[]⟩,some n)) (λk r n=>xs.drop n=(r.filter (bt at_)).map zM/\n<=xs.length) 0 CT ⟨by simp_all,AI _⟩ (λk x r n d U Z E=>?_) (λk n e E=>?_)
 .obtain⟨E,OA⟩:=E;rw[Cw]at E;refine WC (cL @ak d (ag iK U)) (fF ?_ ?_ ?_ ?_ (JJ ?_))<;>intros
  .have hf:bt at_ x=true:=by simp_all [bt]<;>omega
   rw[gr hf,p0]at E;obtain⟨h1,h2,h3⟩:=azk E;exact⟨h1,n+1,CT,h2,h3⟩
  all_goals(have hf:¬bt at_ x=true:=by simp_all [bt]<;>(try intros)<;>omega
            rw[ba hf]at E;exact⟨n,CT,E,OA⟩)
 .obtain⟨E,OA⟩:=E;have e2:=azm E OA;exact WC (bV e e2) zz
def Da:Ab->Prop×J:=bJ UC λf=>(True,.Bg 109 [.ref (lf f)])
theorem azt(f:Fl):Da [.agg (lf f)]=(True,.Bg 109 [.ref (lf f)]):=aI BT _ f
theorem azv:aJ Tryz.prog 80 Da:=by refine aJ.mS (ps:=[]) (I:=[]) trivial trivial agc λf _=>?_;exact ao (bV @at2.eq_1 @UC.eq_1) zz
def xO:Ab->Prop×J:=cH mc eI λl at_=>(True,.Bg 110 [.ref (cD l),.ref [.int .i64 at_]])
theorem azA(l:cT)(at_:Int):xO [.agg (cD l),.int .i64 at_]=(True,.Bg 110 [.ref (cD l),.ref [.int .i64 at_]]):=aY sR cF _ l at_
theorem azB:aJ Tryz.prog 81 xO:=by refine aJ.se (ps:=[]) (I:=[]) trivial trivial acd λl at_ _=>?_;exact ao (bV @aum.eq_1 @mc.eq_1) zz
@[reducible] def Z5(x:Int×Int):Ab:=[.int .i64 x.1,.int .i64 x.2]
def Yv(nH:List (Int×Int))(q:Pl):Int×Int:=nH.getD q.node.toNat (0,0)
def HX(nH:List (Int×Int)):List Pl->Int
 |[]=>0
 |q::r=>(Yv nH q).1+HX nH r
def PA(nH:List (Int×Int)):List Pl->Int
 |[]=>0
 |q::r=>(Yv nH q).2+PA nH r
def rowOf(nH:List (Int×Int))(i:Nat)(f:Fl):Int×Int:=
 (min ((f.eqs.filter gF).length+HX nH (f.eqs.filter (bt i))) 1000,min (1+PA nH (f.eqs.filter (bt i))) 1000)
def kZ(l:cT):Nat->List (Int×Int)
 |0=>[]
 |n+1=>kZ l n++[rowOf (kZ l n) n (ad l n)]
def OG(nH:List (Int×Int)):Prop:=∀x∈nH,0<=x.1/\x.1<=1000/\0<=x.2/\x.2<=1000
theorem HY{nH:List (Int×Int)}(h:OG nH)(q:Pl):0<=(Yv nH q).1/\(Yv nH q).1<=1000/\0<=(Yv nH q).2/\(Yv nH q).2<=1000:=by
 unfold Yv;rcases GK q.node.toNat nH.length with hl|hl
 .rw[BY,tx hl];exact h _ (MJ hl)
 simp_all
theorem xL{nH:List (Int×Int)}(h:OG nH):∀l:List Pl,0<=HX nH l
 |[]=>Ch _
 |q::r=>by have:=xL h r;have:=HY h q;simp only[HX];omega
theorem xM{nH:List (Int×Int)}(h:OG nH):∀l:List Pl,0<=PA nH l
 |[]=>Ch _
 |q::r=>by have:=xM h r;have:=HY h q;simp only[PA];omega
theorem nG(l:cT):∀n,(kZ l n).length=n
 |0=>rfl
 |n+1=>by simp[kZ,nG l n]
theorem AV(l:cT):∀n,OG (kZ l n)
 |0=>by simp[kZ,OG]
 |n+1=>by
  intro x U;rcases pt.1 U with U|U
  .exact AV l n x U
  .simp only[FW]at U;subst U;have h1:=xL (AV l n) ((ad l n).eqs.filter (bt n));have h2:=xM (AV l n) ((ad l n).eqs.filter (bt n));simp only[rowOf];omega
def qf(nH:List (Int×Int))(cur:Ab)(n:Nat):List Ab:=nH.map Z5++(cur::List.replicate n (Z5 (0,0)))
theorem al6(nH:List (Int×Int))(cur:Ab)(n:Nat):(qf nH cur n).length=nH.length+n+1:=by simp[qf];omega
theorem al7{nH:List (Int×Int)}{cur:Ab}{n k:Nat}(h:nH.length=k):(qf nH cur n).getD k []=cur:=by simp_all[qf,BY,IF]
theorem al8{nH:List (Int×Int)}{cur aCm:Ab}{n k:Nat}(h:nH.length=k):(qf nH cur n).set k aCm=qf nH aCm n:=by simp_all[qf,aab]
theorem aq9{nH:List (Int×Int)}{cur:Ab}{n:Nat}{q:Pl}(h0:0<=q.node)(h:q.node<nH.length):(qf nH cur n).getD q.node.toNat []=Z5 (Yv nH q):=by simp_all[qf,Yv,BY,OR]
theorem ahh{nH:List (Int×Int)}{x:Int×Int}{n:Nat}:qf nH (Z5 x) n=(nH++[x]).map Z5++List.replicate n (Z5 (0,0)):=by simp[qf]
def gD(l:cT)(at_:Int):Int×Int:=if 0<=at_/\at_<l.fs.length then(kZ l (at_.toNat+1)).getD at_.toNat (0,0)else(0,0)
def _R(l:cT):Prop:=l.fs.length<=10/\∀f∈l.fs,X6 f
def KS:Ab->Prop×J:=cH mc eI λl at_=>(_R l,.b9 [.int .i64 (gD l at_).1,.int .i64 (gD l at_).2])
theorem azE(l:cT)(at_:Int):KS [.agg (cD l),.int .i64 at_]=(_R l,.b9 [.int .i64 (gD l at_).1,.int .i64 (gD l at_).2]):=aY sR cF _ l at_
theorem aIX:aJ Tryz.prog 49 KS:=by
 refine aJ.aEZ (ps:=[(80,Da),(81,xO)]) (I:=[]) (is:=[(109,xN),(110,tL)]) ⟨azv,azB,BB⟩ trivial ⟨azq,azs,BB⟩ aca λl at_ h=>?_;obtain⟨h1,h2⟩:=h;dsimp only;by_cases c:0<=at_/\at_<l.fs.length;rotate_left
 .have e:gD l at_=(0,0):=by simp[gD,c]
  rw[e];exact ao (bV @CI.eq_1 @mc.eq_1) zz
 obtain⟨c1,c2⟩:=c;have e:gD l at_=(kZ l (at_.toNat+1)).getD at_.toNat (0,0):=by simp[gD,c1,c2]
 obtain⟨n,rfl⟩:∃n:Nat,at_=n:=⟨at_.toNat,by omega⟩;rw[e];simp only[GC];have ht:((n:Int)+1).toNat=n+1:=by omega
 refine ao (cL @CI.eq_1 @mc.eq_1 ht) (JJ (λhn hn=>?_));refine iQ (λk:Nat=>⟨[(1,.int .i64 n),(2,.ref (cD l)),(6,.ptr 1 1 0 0),(8,.undef),(22,.int .i64 (n+1:Nat)),(23,.int .i64 k),(51,.undef)],[⟨.aV,2,(kZ l k).map Z5++List.replicate (n+1-k) (Z5 (0,0))⟩,⟨.loc,1,[[.own 0 (n+1) 0 (n+1)]]⟩]⟩) (λk=>k<=n+1) (λk=>n+1-k) 0 (AI _) CT (AI _) λk hk=>?_;have hk:k<=n+1:=hk;by_cases d:k<n+1
 .obtain⟨m,hm⟩:∃m,n-k=m:=⟨_,rfl⟩;have Y:(kZ l k).map Z5++List.replicate (n+1-k) (Z5 (0,0))=qf (kZ l k) (Z5 (0,0)) m:=by rw[show n+1-k=m+1 by omega];rfl
  have hlen:∀x,(qf (kZ l k) x m).length=n+1:=λx=>by rw[al6,nG];omega
  have vH:∀x,(qf (kZ l k) x m).getD k []=x:=λx=>al7 (nG l k);have FJ:∀x y,(qf (kZ l k) x m).set k y=qf (kZ l k) y m:=λx y=>al8 (nG l k);have hg:l.fs[k]? =some (ad l k):=by grind[ad]
  have UM:=h2 _ (ed hg);have Hr:k<l.fs.length:=by omega
  generalize hT:kZ l k=T at Y hlen vH FJ;have WT:T.length=k:=by grind
  have OB:OG T:=by rw[<-hT];exact AV l k
  rw[Y];generalize hf:ad l k=f at hg UM;refine ao (tM @azt @VA d hlen vH FJ (ag lf hg) Hr) (JJ ?_);have q1:(dJ.GU [(80,Da),(81,xO)] [] [(109,xN),(110,tL)]).i 109 [.ref (lf f)]=(True,(f.eqs.filter gF).map zM):=by have:=azp f;rw[lU UM]at this;exact this
  have q2:(dJ.GU [(80,Da),(81,xO)] [] [(109,xN),(110,tL)]).i 110 [.ref (cD l),.ref [.int .i64 k]]=(True,(f.eqs.filter (bt k)).map zM):=by have:=azr l k;rw[hf,lU (show vE (l,(k:Int)) from⟨by omega,by simp_all,by simp only[bN];omega,h2⟩)]at this;exact this
  refine DB (f.eqs.filter gF) zM (λ_ (a:Int)=>[⟨.aV,2,qf T [.int .i64 a,.int .i64 1] m⟩,⟨.loc,1,[[.own 0 (n+1) 0 (n+1)]]⟩,⟨.loc,1,[[.int .i64 k]]⟩]) (λj _ a=>a=min (j:Int) 1000) 0
   [(1,.int .i64 n),(2,.ref (cD l)),(6,.ptr 1 1 0 0),(7,.ptr 2 1 0 0),(8,.undef),(22,.int .i64 (n+1:Nat)),(23,.int .i64 k),(51,.undef)] (AI _) rfl rfl q1 rfl CT rfl (λj x r a U Z E=>⟨rfl,?_⟩) (λj a ej E=>?_)
  .subst E;refine ao (rO @tg @zM.eq_1 @V7.{0,0} @List.zip_nil_right.{0,0} hlen vH FJ) (JJ ?_);exact⟨_,CT,by omega⟩
  .subst E;rw[ej];refine ao (bV @azA @VA) (JJ ?_);refine DB (f.eqs.filter (bt k)) zM (λ_ (a:Int×Int)=>[⟨.aV,2,qf T (Z5 a) m⟩,⟨.loc,1,[[.own 0 (n+1) 0 (n+1)]]⟩,⟨.loc,1,[[.int .i64 k]]⟩])
    (λj r a=>(0<=a.1/\a.1<=1000/\0<=a.2/\a.2<=1000)/\min (a.1+HX T r) 1000=(rowOf T k f).1/\min (a.2+PA T r) 1000=(rowOf T k f).2) (min ((f.eqs.filter gF).length:Int) 1000,1)
    [(1,.int .i64 n),(2,.ref (cD l)),(6,.ptr 1 1 0 0),(7,.ptr 2 1 0 0),(8,.undef),(22,.int .i64 (n+1:Nat)),(23,.int .i64 k)] (AI _) rfl rfl q2 rfl CT ?_ (λj x r a U Z E=>⟨rfl,?_⟩) (λj a ej E=>?_)
   .have g1:=xL OB (f.eqs.filter (bt k));grind[xM,bt,rowOf]
   .obtain⟨⟨r1,r2,r3,r4⟩,r5,r6⟩:=E;have hq:bt k x=true:=(PC.1 (ed U)).2;simp only[bt,ab,ir]at hq;obtain⟨_,_,n0,n1⟩:=hq;have S8:∀y,(qf T y m).getD x.node.toNat []=Z5 (Yv T x):=λy=>aq9 n0 (by omega);have hnk:¬(x.node.toNat=k):=by omega
    have D9:x.node<((n+1:Nat):Int):=by omega
    have a1:=HY OB x;have g1:=xL OB r;have g2:=xM OB r;simp only[HX,PA]at r5 r6;refine ao (ey @tg @zM.eq_1 @V7.{0,0} @List.zip_nil_right.{0,0} hlen vH FJ S8 (bV n0 D9)) (JJ ?_);exact⟨(_,_),CT,by simp only;omega⟩
   .obtain⟨⟨r1,r2,r3,r4⟩,r5,r6⟩:=E;simp only[HX,PA,Int.add_zero]at r5 r6;have ea:a=rowOf T k f:=by grind
    subst ea;refine ao trivial (JJ ?_);refine⟨k+1,?_,by omega,by omega⟩;have e2:(kZ l (k+1)).map Z5++List.replicate (n+1-(k+1)) (Z5 (0,0))=qf T (Z5 (rowOf T k f)) m:=by simp_all[ahh,kZ]
    rw[e2];exact CT
 .have Y:k=n+1:=by omega
  subst Y;have VQ:((kZ l (n+1)).map Z5).getD n []=Z5 ((kZ l (n+1)).getD n (0,0)):=by simp_all[kZ,nG]
  exact ao (fF @nG @Nat.sub_self @List.replicate_zero.{0} @xz.{0} VQ) zz
def Qg:Ab->Prop×J:=cH J1 eI λq at_=>(True,.b9 [.bool (gF q),.bool (bt at_ q)])
theorem H0(q:Pl)(at_:Int):Qg [.agg (iK q),.int .i64 at_]=(True,.b9 [.bool (gF q),.bool (bt at_ q)]):=aY _E cF _ q at_
theorem azL:aJ Tryz.prog 78 Qg:=by
 refine aJ.se (ps:=[]) (I:=[]) trivial trivial aFi λq at_ _=>?_;by_cases c:q.names.length=0
 .have e0:decide (0<q.names.length)=false:=by rw[c];rfl
  have Y:gF q=false:=by rw[gF,e0,Ma]
  have e2:bt at_ q=false:=by rw[bt,e0,C4,Ma]
  have c':((q.names.length:Int)==0)=true:=by rw[c];rfl
  exact ao (jg @qZ.eq_1 @J1.eq_1 @ak Y e2 c') zz
 .have c':((q.names.length:Int)==0)=false:=by simp_all
  have e0:decide (0<q.names.length)=true:=ON (by omega);have Y:gF q=(q.kind==5):=by rw[gF,e0,GJ]
  have e2:bt at_ q=(q.kind==7&&(decide (0<=q.node)&&decide (q.node<at_))):=by rw[bt,e0,Pd]
  rw[Y,e2];exact ao (fj @qZ.eq_1 @J1.eq_1 @ak c') zz;all_goals simp_all
def _S:Ab->Prop×J:=bJ eI λn=>(True,.int .i64 (min n 1000))
theorem azO(n:Int):_S [.int .i64 n]=(True,.int .i64 (min n 1000)):=aI cF _ n
theorem aIY:aJ Tryz.prog 79 _S:=by refine aJ.mS (ps:=[]) (I:=[]) trivial trivial aFl λn _=>?_;exact ao @at0.eq_1 zz
def r1(T:List (Int×Int)):List Ab:=T.map λx=>[.int .i64 x.1]
def r2(T:List (Int×Int)):List Ab:=T.map λx=>[.int .i64 x.2]
theorem _T(T:List (Int×Int)):(r1 T).length=T.length:=by simp[r1]
theorem _U(T:List (Int×Int)):(r2 T).length=T.length:=by simp[r2]
theorem av8{T:List (Int×Int)}{k:Nat}(h:k<T.length):(r1 T).getD k []=[.int .i64 (T.getD k (0,0)).1]:=by simp[r1,h]
theorem av9{T:List (Int×Int)}{k:Nat}(h:k<T.length):(r2 T).getD k []=[.int .i64 (T.getD k (0,0)).2]:=by simp[r2,h]
theorem auI(T:List (Int×Int))(x:Int×Int):r1 T++[[.int .i64 x.1]]=r1 (T++[x]):=by simp[r1]
theorem auJ(T:List (Int×Int))(x:Int×Int):r2 T++[[.int .i64 x.2]]=r2 (T++[x]):=by simp[r2]
def nK(l:List Pl):Int:=(l.filter gF).length
theorem aCn(l:List Pl):0<=nK l:=by unfold nK;omega
theorem aIZ:aJ Tryz.prog 47 KS:=by
 refine aJ.se (ps:=[(78,Qg),(79,_S)]) (I:=[]) ⟨azL,aIY,BB⟩ trivial aEJ λl at_ h=>?_;try dsimp only at h
 obtain⟨h1,h2⟩:=h;by_cases c:0<=at_/\at_<l.fs.length;rotate_left
 .have e:gD l at_=(0,0):=by simp[gD,c]
  rw[e];exact ao (bV @pL.eq_1 @mc.eq_1) zz
 obtain⟨c1,c2⟩:=c;have e:gD l at_=(kZ l (at_.toNat+1)).getD at_.toNat (0,0):=by simp[gD,c1,c2]
 obtain⟨n,rfl⟩:∃n:Nat,at_=n:=⟨at_.toNat,by omega⟩;rw[e];simp only[GC];refine ao (bV @pL.eq_1 @mc.eq_1) (JJ (λhn hn=>?_));refine iQ (λk:Nat=>⟨[(1,.int .i64 n),(2,.ref (cD l)),(6,.own 0 k 0 k),(7,.own 1 k 0 k),(8,.int .i64 k)],[⟨.aV,1,r1 (kZ l k)⟩,⟨.aV,1,r2 (kZ l k)⟩]⟩) (λk=>k<=n+1) (λk=>n+1-k) 0 (AI _) CT (AI _) λk hk=>?_;have hk:k<=n+1:=hk;by_cases d:k<n+1
 .have dn:(k:Int)<=n:=by omega
  have hg:l.fs[k]? =some (ad l k):=by grind[ad]
  have UM:(ad l k).eqs.length<=bN:=h2 _ (ed hg);simp only[bN]at UM;have Hr:k<l.fs.length:=by omega
  have WT:=nG l k;have OB:=AV l k;have _V:kZ l (k+1)=kZ l k++[rowOf (kZ l k) k (ad l k)]:=rfl;generalize kZ l k=T at WT OB _V;generalize hf:ad l k=f at hg UM _V;refine ao @dn (JJ ?_);refine aj f.eqs (λj (a:Int×Int)=>⟨[(1,.int .i64 n),(2,.ref (cD l)),(6,.own 0 k 0 k),(7,.own 1 k 0 k),(8,.int .i64 k),(9,.int .i64 a.1),(10,.int .i64 a.2),(11,.int .i64 j)],[⟨.aV,1,r1 T⟩,⟨.aV,1,r2 T⟩]⟩)
   (λj r a=>(0<=a.1/\a.1<=1000/\0<=a.2/\a.2<=1000)/\min (a.1+(nK r+HX T (r.filter (bt k)))) 1000=(rowOf T k f).1/\min (a.2+PA T (r.filter (bt k))) 1000=(rowOf T k f).2) (0,1) (AI _) CT ?_ (λj x r a d2 U Z E=>?_) (λj a ej E=>?_)
  .simp_all[xL,bt,xM,rowOf,nK]
  .obtain⟨⟨q1,q2,q3,q4⟩,q5,q6⟩:=E;have a1:=HY OB x;have g1:=xL OB (r.filter (bt k));have g2:=xM OB (r.filter (bt k));have g3:=aCn r;have Y:=H0 x k;simp only[iK]at Y;by_cases cc:bt k x=true
   .have hq:=cc;simp only[bt,ab,ir]at hq;obtain⟨hk7,_,n0,n1⟩:=hq;have cf:gF x=false:=by simp_all[GO,gF]
    have D9:x.node.toNat<T.length:=by omega
    have b1:=av8 D9;have b2:=av9 D9;rw[cc,cf]at Y;simp only[nK,Cw,cc,cf,Bp,HX,PA,AN,Bv]at q5 q6;simp only[Yv]at a1 q5 q6;have n1':x.node<((k:Nat):Int):=n1;refine ao (ey @azO d2 (ag lf hg) (ag iK U) Hr Y b1 b2 (fF @_T @_U WT n0 n1')) (JJ ?_);exact⟨(_,_),CT,by simp only[nK];omega⟩
   .have cc:bt k x=false:=by simp_all
    rw[cc]at Y;by_cases cf:gF x=true
    .rw[cf]at Y;simp only[nK,Cw,cc,cf,Bp,IS,AN,Bv]at q5 q6;refine ao (jg @azO d2 (ag lf hg) (ag iK U) Hr Y) (JJ ?_);exact⟨(_,_),CT,by simp only[nK];omega⟩
    .have cf:gF x=false:=by simp_all
     rw[cf]at Y;simp only[nK,Cw,cc,cf,AN,Bv]at q5 q6;refine ao (fF d2 (ag lf hg) (ag iK U) Hr Y) (JJ ?_);exact⟨(_,_),CT,by simp only[nK];omega⟩
  .obtain⟨⟨q1,q2,q3,q4⟩,q5,q6⟩:=E;simp only[nK,List.filter_nil,Cd,HX,PA,Int.add_zero,Int.natCast_zero]at q5 q6;have ea:a=rowOf T k f:=by grind
   subst ea;refine ao (jg ej (ag lf hg) Hr @_T @_U WT) (JJ ?_);exact⟨k+1,by rw[auI,auJ,<-_V];exact CT,by omega,by omega⟩
 .have Y:k=n+1:=by omega
  subst Y;have hl:n<(kZ l (n+1)).length:=by rw[nG];omega
  exact ao (fF @_T @_U @nG (av8 hl) (av9 hl)) zz
end
end Go.Proofs.YtldnkkkooabaeaaGreat

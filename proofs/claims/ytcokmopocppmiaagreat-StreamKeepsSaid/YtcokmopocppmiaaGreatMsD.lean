/- What a Flow keeps, and which Flows it calls: iterators; how much in all. -/
import Derived.Test.YtcokmopocppmiaaGreatMsA
set_option linter.all false
set_option maxRecDepth 20000
namespace Go.Proofs.YtcokmopocppmiaaGreat
noncomputable section
open Go.Nk
theorem Mi{α}{l:List α}{n}{x:α}{r}(h:l.drop n=x::r):l[n]? =some x/\l.drop (n+1)=r/\n+1<=l.length:=by
 have hl:n<l.length:=by
  rcases Nat.lt_or_ge n l.length with h1|h1
  ·exact h1
  ·rw[List.drop_of_length_le h1]at h;cases h
 rw[List.drop_eq_getElem_cons hl]at h;injection h with h1 h2;exact⟨by rw[<-h1];exact List.getElem?_eq_getElem hl,h2,hl⟩
theorem II{α}{l:List α}{n}(h:l.drop n=[])(hn:n<=l.length):n=l.length:=by have:=List.drop_eq_nil_iff.1 h;omega
def gY(q:Pl):Bool:=q.kind==5&&decide (0<q.names.length)
def zj(q:Pl):List DV:=[.agg (fJ q)]
def wm:List DV->Prop×List (List DV):=Md (λf:Fl=>[.ref (j0 f)]) λf=>(WX f,(f.eqs.filter gY).map zj)
theorem ahT:GK (λf:Fl=>[DV.ref (j0 f)]):=λx y h=>by injection h with h _;injection h with h;exact GL _ _ h
def QW(f:Fl):=show wm [.ref (j0 f)]=_ from Z7 ahT _ f
theorem TY:OkI Tryz.prog 121 wm:=by
 refine OkI.mkA (ps:=[]) (hs:=[]) (is:=[]) trivial trivial trivial VI rfl (λ_=>rfl) λf l h=> ?_;have h:f.eqs.length<=bI:=h;simp only[bI]at h;dsimp only;generalize sS:(f.eqs.filter gY).map zj=xs;refine IuN @HO.eq_1 (JJ ?_);refine TF f.eqs (λk (n:Nat)=>(⟨[(0,.Qm l),(6,.sl (f.eqs.map fJ)),(7,.int .i64 f.eqs.length),(8,.int .i64 k)],[]⟩,some n)) (λk r n=>xs.drop n=(r.filter gY).map zj/\n<=xs.length) 0 CT ⟨by rw[<-sS];rfl,Nat.zero_le _⟩ (λk x r n d hx hd hr=> ?_) (λk n e hr=> ?_)
 ·obtain⟨hr,hbn⟩:=hr;rw[List.filter_cons]at hr;refine IuN (A3 @aj d (af fJ hx)) (A3 ?_ ?_ (JJ ?_))<;>intros
  ·have hf:gY x=true:=by simp_all [gY]<;>omega
   rw[if_pos hf,List.map_cons]at hr;obtain⟨h1,h2,h3⟩:=Mi hr;exact⟨h1,n+1,CT,h2,h3⟩
  all_goals(have hf:¬gY x=true:=by simp_all [gY]
            rw[if_neg hf]at hr;exact⟨n,CT,hr,hbn⟩)
 ·obtain⟨hr,hbn⟩:=hr;have e2:=II hr hbn;exact IuN (A2 e e2) zz
def bk(at_:Int)(q:Pl):Bool:=q.kind==7&&(decide (0<q.names.length)&&(decide (0<=q.node)&&decide (q.node<at_)))
def ad(l:jw)(at_:Int):Fl:=l.fs.getD at_.toNat default
def apv(x:jw×Int):Prop:=0<=x.2/\x.2<x.1.fs.length/\azT x.1
@[reducible] def amu(x:jw×Int):List DV:=[.ref (b8 x.1),.ref [.int .i64 x.2]]
def rG:List DV->Prop×List (List DV):=Md amu λx=>(apv x,((ad x.1 x.2).eqs.filter (bk x.2)).map zj)
theorem adA:GK amu:=λx y h=>by obtain⟨a,b⟩:=x;obtain⟨c,d⟩:=y;injection h with h1 h2;injection h1 with h1;injection h2 with h2 _;injection h2 with h2;injection h2 with h2 _;injection h2 with _ h2;simp only at h1 h2;rw[Aj _ _ h1,h2]
theorem Mj(l:jw)(at_:Int):rG [.ref (b8 l),.ref [.int .i64 at_]]=(apv (l,at_),((ad l at_).eqs.filter (bk at_)).map zj):=Z7 adA _ (l,at_)
theorem QX:OkI Tryz.prog 122 rG:=by
 refine OkI.mkA (ps:=[]) (hs:=[]) (is:=[]) trivial trivial trivial RQ rfl (λ_=>rfl) λx l h=> ?_;obtain⟨fl,at_⟩:=x;obtain⟨h0,h1,h2,h3⟩:=h;simp only at h0 h1 h2 h3;dsimp only;have hg:fl.fs[at_.toNat]? =some (ad fl at_):=by
  have hl:at_.toNat<fl.fs.length:=by omega
  simp[ad,hl]
 have h3:(ad fl at_).eqs.length<=bI:=h3 _ (List.mem_of_getElem? hg);simp only[bI]at h3;generalize hf:ad fl at_=f at hg h3;generalize sS:(f.eqs.filter (bk at_)).map zj=xs;refine IuN (A2 @DB.eq_1 (af j0 hg)) (JJ ?_);refine TF f.eqs (λk (n:Nat)=>(⟨[(0,.Qm l),(2,.ref [.int .i64 at_]),(12,.sl (f.eqs.map fJ)),(13,.int .i64 f.eqs.length),(14,.int .i64 k)],[]⟩,some n)) (λk r n=>xs.drop n=(r.filter (bk at_)).map zj/\n<=xs.length) 0 CT ⟨by rw[<-sS];rfl,Nat.zero_le _⟩ (λk x r n d hx hd hr=> ?_) (λk n e hr=> ?_)
 ·obtain⟨hr,hbn⟩:=hr;rw[List.filter_cons]at hr;refine IuN (A3 @aj d (af fJ hx)) (A5 ?_ ?_ ?_ ?_ (JJ ?_))<;>intros
  ·have hf:bk at_ x=true:=by simp_all [bk]<;>omega
   rw[if_pos hf,List.map_cons]at hr;obtain⟨h1,h2,h3⟩:=Mi hr;exact⟨h1,n+1,CT,h2,h3⟩
  all_goals(have hf:¬bk at_ x=true:=by simp_all [bk]<;>(try intros)<;>omega
            rw[if_neg hf]at hr;exact⟨n,CT,hr,hbn⟩)
 ·obtain⟨hr,hbn⟩:=hr;have e2:=II hr hbn;exact IuN (A2 e e2) zz
def BG:List DV->Prop×DV:=bB WC λf=>(True,.clo 121 [.ref (j0 f)])
def TZ(f):=show BG [.agg (j0 f)]=_ from aH D5 _ f
theorem Mk:aF Tryz.prog 85 BG:=by refine aF.mo (ps:=[]) (hs:=[]) trivial trivial aco λf _=> ?_;exact aq (A2 @Ps.eq_1 @WC.eq_1) zz
def wo:List DV->Prop×DV:=b5 jz eI λl at_=>(True,.clo 122 [.ref (b8 l),.ref [.int .i64 at_]])
def QY(l)(at_):=show wo [.agg (b8 l),.int .i64 at_]=_ from aO o9 b6 _ l at_
theorem IJ:aF Tryz.prog 86 wo:=by refine aF.oU (ps:=[]) (hs:=[]) trivial trivial YD λl at_ _=> ?_;exact aq (A2 @LB.eq_1 @jz.eq_1) zz
@[reducible] def WO(x:Int×Int):List DV:=[.int .i64 x.1,.int .i64 x.2]
def U9(mf:List (Int×Int))(q:Pl):Int×Int:=mf.getD q.node.toNat (0,0)
def Gc(mf:List (Int×Int)):List Pl->Int
 |[]=>0
 |q::r=>(U9 mf q).1+Gc mf r
def MX(mf:List (Int×Int)):List Pl->Int
 |[]=>0
 |q::r=>(U9 mf q).2+MX mf r
def rowOf(mf:List (Int×Int))(i:Nat)(f:Fl):Int×Int:=
 (min ((f.eqs.filter gY).length+Gc mf (f.eqs.filter (bk i))) 1000,min (1+MX mf (f.eqs.filter (bk i))) 1000)
def jT(l:jw):Nat->List (Int×Int)
 |0=>[]
 |n+1=>jT l n++[rowOf (jT l n) n (ad l n)]
def Mh(mf:List (Int×Int)):Prop:=∀x∈mf,0<=x.1/\x.1<=1000/\0<=x.2/\x.2<=1000
theorem Gd{mf}(h:Mh mf)(q):0<=(U9 mf q).1/\(U9 mf q).1<=1000/\0<=(U9 mf q).2/\(U9 mf q).2<=1000:=by
 unfold U9;rcases Nat.lt_or_ge q.node.toNat mf.length with hl|hl
 ·rw[List.getD_eq_getElem?_getD,List.getElem?_eq_getElem hl];exact h _ (List.getElem_mem hl)
 ·rw[List.getD_eq_getElem?_getD,List.getElem?_eq_none hl];simp
theorem wh{mf}(h:Mh mf):∀l:List Pl,0<=Gc mf l
 |[]=>Int.le_refl _
 |q::r=>by have:=wh h r;have:=Gd h q;simp only[Gc];omega
theorem wi{mf}(h:Mh mf):∀l:List Pl,0<=MX mf l
 |[]=>Int.le_refl _
 |q::r=>by have:=wi h r;have:=Gd h q;simp only[MX];omega
theorem jP(l):∀n,(jT l n).length=n
 |0=>rfl
 |n+1=>by simp[jT,jP l n]
theorem zh(l):∀n,Mh (jT l n)
 |0=>by simp[jT,Mh]
 |n+1=>by
  intro x hx;rcases List.mem_append.1 hx with hx|hx
  ·exact zh l n x hx
  ·simp only[List.mem_singleton]at hx;subst hx;have h1:=wh (zh l n) ((ad l n).eqs.filter (bk n));have h2:=wi (zh l n) ((ad l n).eqs.filter (bk n));simp only[rowOf];omega
def oL(mf:List (Int×Int))(cur:List DV)(n:Nat):List (List DV):=mf.map WO++(cur::List.replicate n (WO (0,0)))
theorem ahU(mf:List (Int×Int))(cur)(n):(oL mf cur n).length=mf.length+n+1:=by simp[oL];omega
theorem ahV{mf:List (Int×Int)}{cur}{n k}(h:mf.length=k):(oL mf cur n).getD k []=cur:=by unfold oL;rw[List.getD_eq_getElem?_getD,List.getElem?_append_right (by simp;omega)];simp[h]
theorem ahW{mf:List (Int×Int)}{cur awE}{n k}(h:mf.length=k):(oL mf cur n).set k awE=oL mf awE n:=by unfold oL;rw[List.set_append_right _ _ (by simp;omega)];simp[h]
theorem amv{mf:List (Int×Int)}{cur}{n}{q:Pl}(h0:0<=q.node)(h:q.node<mf.length):(oL mf cur n).getD q.node.toNat []=WO (U9 mf q):=by
 have hl:q.node.toNat<mf.length:=by omega
 unfold oL U9;rw[List.getD_eq_getElem?_getD,List.getElem?_append_left (by simpa using hl)];simp[hl]
theorem adB{mf}{x}{n}:oL mf (WO x) n=(mf++[x]).map WO++List.replicate n (WO (0,0)):=by simp[oL]
def gA(l:jw)(at_:Int):Int×Int:=if 0<=at_/\at_<l.fs.length then(jT l (at_.toNat+1)).getD at_.toNat (0,0)else(0,0)
def okC(l:jw):Prop:=l.fs.length<=10/\∀f∈l.fs,WX f
def IH:List DV->Prop×DV:=b5 jz eI λl at_=>(okC l,.cy [.int .i64 (gA l at_).1,.int .i64 (gA l at_).2])
def QU(l)(at_):=show IH [.agg (b8 l),.int .i64 at_]=_ from aO o9 b6 _ l at_
theorem Ws:aF Tryz.prog 54 IH:=by
 refine aF.azS (ps:=[(85,BG),(86,wo)]) (hs:=[]) (is:=[(121,wm),(122,rG)]) ⟨Mk,IJ,trivial⟩ trivial ⟨TY,QX,trivial⟩ YB λl at_ h=> ?_;obtain⟨h1,h2⟩:=h;dsimp only;by_cases c:0<=at_/\at_<l.fs.length;rotate_left
 ·have e:gA l at_=(0,0):=by simp[gA,c]
  rw[e];exact aq (A2 @Bh.eq_1 @jz.eq_1) zz
 obtain⟨c1,c2⟩:=c;have e:gA l at_=(jT l (at_.toNat+1)).getD at_.toNat (0,0):=by simp[gA,c1,c2]
 obtain⟨n,rfl⟩:∃n:Nat,at_=n:=⟨at_.toNat,by omega⟩;rw[e];simp only[Int.toNat_natCast];have ht:((n:Int)+1).toNat=n+1:=by omega
 refine aq (A3 @Bh.eq_1 @jz.eq_1 ht) (JJ (λhn hn=> ?_));refine gT (λk:Nat=>⟨[(1,.int .i64 n),(2,.ref (b8 l)),(6,.ptr 1 1 0 0),(8,.undef),(22,.int .i64 (n+1:Nat)),(23,.int .i64 k),(51,.undef)],[⟨.aN,2,(jT l k).map WO++List.replicate (n+1-k) (WO (0,0))⟩,⟨.loc,1,[[.own 0 (n+1) 0 (n+1)]]⟩]⟩) (λk=>k<=n+1) (λk=>n+1-k) 0 (Nat.zero_le _) CT (Nat.zero_le _) λk hk=> ?_;have hk:k<=n+1:=hk;by_cases d:k<n+1
 ·obtain⟨m,hm⟩:∃m,n-k=m:=⟨_,rfl⟩;have e1:(jT l k).map WO++List.replicate (n+1-k) (WO (0,0))=oL (jT l k) (WO (0,0)) m:=by rw[show n+1-k=m+1 by omega];rfl
  have hlen:∀x,(oL (jT l k) x m).length=n+1:=λx=>by rw[ahU,jP];omega
  have apw:∀x,(oL (jT l k) x m).getD k []=x:=λx=>ahV (jP l k);have XH:∀x y,(oL (jT l k) x m).set k y=oL (jT l k) y m:=λx y=>ahW (jP l k);have hg:l.fs[k]? =some (ad l k):=by
   have hl:k<l.fs.length:=by omega
   simp[ad,hl]
  have RA:=h2 _ (List.mem_of_getElem? hg);have hkl:k<l.fs.length:=by omega
  generalize hT:jT l k=T at e1 hlen apw XH;have hTl:T.length=k:=by rw[<-hT];exact jP l k
  have hTo:Mh T:=by rw[<-hT];exact zh l k
  rw[e1];generalize hf:ad l k=f at hg RA;refine aq (A8 @TZ @Z9 d hlen apw XH (af j0 hg) hkl) (JJ ?_);have q1:(jL.ofI [(85,BG),(86,wo)] [] [(121,wm),(122,rG)]).i 121 [.ref (j0 f)]=(True,(f.eqs.filter gY).map zj):=by have:=QW f;rw[eq_true RA]at this;exact this
  have q2:(jL.ofI [(85,BG),(86,wo)] [] [(121,wm),(122,rG)]).i 122 [.ref (b8 l),.ref [.int .i64 k]]=(True,(f.eqs.filter (bk k)).map zj):=by have:=Mj l k;rw[hf,eq_true (show apv (l,(k:Int)) from⟨by simp only;omega,by simp only;omega,by simp only[bI];omega,h2⟩)]at this;exact this
  refine Cd (f.eqs.filter gY) zj (λ_ (a:Int)=>[⟨.aN,2,oL T [.int .i64 a,.int .i64 1] m⟩,⟨.loc,1,[[.own 0 (n+1) 0 (n+1)]]⟩,⟨.loc,1,[[.int .i64 k]]⟩]) (λj _ a=>a=min (j:Int) 1000) 0
   [(1,.int .i64 n),(2,.ref (b8 l)),(6,.ptr 1 1 0 0),(7,.ptr 2 1 0 0),(8,.undef),(22,.int .i64 (n+1:Nat)),(23,.int .i64 k),(51,.undef)] (Nat.zero_le _) rfl rfl q1 rfl CT rfl (λj x r a hx hd hr=>⟨rfl,?_⟩) (λj a ej hr=> ?_)
  ·subst hr;refine aq (A7 @wc @zj.eq_1 @List.zip_cons_cons.{0,0} @List.zip_nil_right.{0,0} hlen apw XH) (JJ ?_);exact⟨_,CT,by omega⟩
  ·subst hr;rw[ej];refine aq (A2 @QY @Z9) (JJ ?_);refine Cd (f.eqs.filter (bk k)) zj (λ_ (a:Int×Int)=>[⟨.aN,2,oL T (WO a) m⟩,⟨.loc,1,[[.own 0 (n+1) 0 (n+1)]]⟩,⟨.loc,1,[[.int .i64 k]]⟩])
    (λj r a=>(0<=a.1/\a.1<=1000/\0<=a.2/\a.2<=1000)/\min (a.1+Gc T r) 1000=(rowOf T k f).1/\min (a.2+MX T r) 1000=(rowOf T k f).2) (min ((f.eqs.filter gY).length:Int) 1000,1)
    [(1,.int .i64 n),(2,.ref (b8 l)),(6,.ptr 1 1 0 0),(7,.ptr 2 1 0 0),(8,.undef),(22,.int .i64 (n+1:Nat)),(23,.int .i64 k)] (Nat.zero_le _) rfl rfl q2 rfl CT ?_ (λj x r a hx hd hr=>⟨rfl,?_⟩) (λj a ej hr=> ?_)
   ·have g1:=wh hTo (f.eqs.filter (bk k));have g2:=wi hTo (f.eqs.filter (bk k));simp only[rowOf];refine⟨⟨by omega,by omega,by omega,by omega⟩,by omega,by first|trivial|omega⟩
   ·obtain⟨⟨r1,r2,r3,r4⟩,r5,r6⟩:=hr;have hq:=(List.mem_filter.1 (List.mem_of_getElem? hx)).2;simp only[bk,Bool.and_eq_true,decide_eq_true_eq]at hq;obtain⟨_,_,n0,n1⟩:=hq;have P2:∀y,(oL T y m).getD x.node.toNat []=WO (U9 T x):=λy=>amv n0 (by omega);have hnk:¬(x.node.toNat=k):=by omega
    have Ut:x.node<((n+1:Nat):Int):=by omega
    have a1:=Gd hTo x;have g1:=wh hTo r;have g2:=wi hTo r;simp only[Gc,MX]at r5 r6;refine aq (A9 @wc @zj.eq_1 @List.zip_cons_cons.{0,0} @List.zip_nil_right.{0,0} hlen apw XH P2 (A2 n0 Ut)) (JJ ?_);exact⟨(_,_),CT,by simp only;omega⟩
   ·obtain⟨⟨r1,r2,r3,r4⟩,r5,r6⟩:=hr;simp only[Gc,MX,Int.add_zero]at r5 r6;have ea:a=rowOf T k f:=by obtain⟨a1,a2⟩:=a;simp only at r1 r2 r3 r4 r5 r6;exact Prod.ext (by simp only;omega) (by simp only;omega)
    subst ea;refine aq trivial (JJ ?_);refine⟨k+1,?_,by omega,by omega⟩;have e2:(jT l (k+1)).map WO++List.replicate (n+1-(k+1)) (WO (0,0))=oL T (WO (rowOf T k f)) m:=by rw[adB,show n+1-(k+1)=m by omega];simp only[jT,hT,hf]
    rw[e2];exact CT
 ·have e1:k=n+1:=by omega
  subst e1;have hg2:((jT l (n+1)).map WO).getD n []=WO ((jT l (n+1)).getD n (0,0)):=by
   have hl:n<(jT l (n+1)).length:=by rw[jP];omega
   simp[hl]
  exact aq (A5 @jP @Nat.sub_self @List.replicate_zero.{0} @List.append_nil.{0} hg2) zz
def NC:List DV->Prop×DV:=b5 ePl eI λq at_=>(True,.cy [.bool (gY q),.bool (bk at_ q)])
def Ge(q)(at_):=show NC [.agg (fJ q),.int .i64 at_]=_ from aO ajC b6 _ q at_
theorem uN:aF Tryz.prog 62 NC:=by
 refine aF.oU (ps:=[]) (hs:=[]) trivial trivial HK λq at_ _=> ?_;by_cases c:q.names.length=0
 ·have e0:decide (0<q.names.length)=false:=by rw[c];rfl
  have e1:gY q=false:=by rw[gY,e0,Bool.and_false]
  have e2:bk at_ q=false:=by rw[bk,e0,Bool.false_and,Bool.and_false]
  have c':((q.names.length:Int)==0)=true:=by rw[c];rfl
  exact aq (A6 @pD.eq_1 @ePl.eq_1 @aj e1 e2 c') zz
 ·have c':((q.names.length:Int)==0)=false:=by
   have:¬(q.names.length:Int)=0:=by omega
   simpa using this
  have e0:decide (0<q.names.length)=true:=decide_eq_true (by omega);have e1:gY q=(q.kind==5):=by rw[gY,e0,Bool.and_true]
  have e2:bk at_ q=(q.kind==7&&(decide (0<=q.node)&&decide (q.node<at_))):=by rw[bk,e0,Bool.true_and]
  rw[e1,e2];exact aq (A4 @pD.eq_1 @ePl.eq_1 @aj c') zz;all_goals simp_all
def adC:List DV->Prop×DV:=bB eI λn=>(True,.int .i64 (min n 1000))
def T0(n):=show adC [.int .i64 n]=_ from aH b6 _ n
theorem IK:aF Tryz.prog 63 adC:=by refine aF.mo (ps:=[]) (hs:=[]) trivial trivial Kp λn _=> ?_;exact aq @xS.eq_1 zz
def r1(T:List (Int×Int)):List (List DV):=T.map λx=>[.int .i64 x.1]
def r2(T:List (Int×Int)):List (List DV):=T.map λx=>[.int .i64 x.2]
theorem adD(T:List (Int×Int)):(r1 T).length=T.length:=by simp[r1]
theorem adE(T:List (Int×Int)):(r2 T).length=T.length:=by simp[r2]
theorem aqF{T:List (Int×Int)}{k}(h:k<T.length):(r1 T).getD k []=[.int .i64 (T.getD k (0,0)).1]:=by simp[r1,h]
theorem aqG{T:List (Int×Int)}{k}(h:k<T.length):(r2 T).getD k []=[.int .i64 (T.getD k (0,0)).2]:=by simp[r2,h]
theorem apx(T)(x):r1 T++[[.int .i64 x.1]]=r1 (T++[x]):=by simp[r1]
theorem apy(T)(x):r2 T++[[.int .i64 x.2]]=r2 (T++[x]):=by simp[r2]
def nK(l:List Pl):Int:=(l.filter gY).length
theorem awF(l):0<=nK l:=by unfold nK;omega
theorem Dg:aF Tryz.prog 34 IH:=by
 refine aF.oU (ps:=[(62,NC),(63,adC)]) (hs:=[]) ⟨uN,IK,trivial⟩ trivial Fh λl at_ h=> ?_;try dsimp only at h
 obtain⟨h1,h2⟩:=h;by_cases c:0<=at_/\at_<l.fs.length;rotate_left
 ·have e:gA l at_=(0,0):=by simp[gA,c]
  rw[e];exact aq (A2 @oc.eq_1 @jz.eq_1) zz
 obtain⟨c1,c2⟩:=c;have e:gA l at_=(jT l (at_.toNat+1)).getD at_.toNat (0,0):=by simp[gA,c1,c2]
 obtain⟨n,rfl⟩:∃n:Nat,at_=n:=⟨at_.toNat,by omega⟩;rw[e];simp only[Int.toNat_natCast];refine aq (A2 @oc.eq_1 @jz.eq_1) (JJ (λhn hn=> ?_));refine gT (λk:Nat=>⟨[(1,.int .i64 n),(2,.ref (b8 l)),(6,.own 0 k 0 k),(7,.own 1 k 0 k),(8,.int .i64 k)],[⟨.aN,1,r1 (jT l k)⟩,⟨.aN,1,r2 (jT l k)⟩]⟩) (λk=>k<=n+1) (λk=>n+1-k) 0 (Nat.zero_le _) CT (Nat.zero_le _) λk hk=> ?_;have hk:k<=n+1:=hk;by_cases d:k<n+1
 ·have dn:(k:Int)<=n:=by omega
  have hg:l.fs[k]? =some (ad l k):=by
   have hl:k<l.fs.length:=by omega
   simp[ad,hl]
  have RA:(ad l k).eqs.length<=bI:=h2 _ (List.mem_of_getElem? hg);simp only[bI]at RA;have hkl:k<l.fs.length:=by omega
  have hTl:=jP l k;have hTo:=zh l k;have hT2:jT l (k+1)=jT l k++[rowOf (jT l k) k (ad l k)]:=rfl;generalize jT l k=T at hTl hTo hT2;generalize hf:ad l k=f at hg RA hT2;refine aq @dn (JJ ?_);refine ai f.eqs (λj (a:Int×Int)=>⟨[(1,.int .i64 n),(2,.ref (b8 l)),(6,.own 0 k 0 k),(7,.own 1 k 0 k),(8,.int .i64 k),(9,.int .i64 a.1),(10,.int .i64 a.2),(11,.int .i64 j)],[⟨.aN,1,r1 T⟩,⟨.aN,1,r2 T⟩]⟩)
   (λj r a=>(0<=a.1/\a.1<=1000/\0<=a.2/\a.2<=1000)/\min (a.1+(nK r+Gc T (r.filter (bk k)))) 1000=(rowOf T k f).1/\min (a.2+MX T (r.filter (bk k))) 1000=(rowOf T k f).2) (0,1) (Nat.zero_le _) CT ?_ (λj x r a d2 hx hd hr=> ?_) (λj a ej hr=> ?_)
  ·have g1:=wh hTo (f.eqs.filter (bk k));have g2:=wi hTo (f.eqs.filter (bk k));simp only[rowOf,nK];refine⟨⟨by omega,by omega,by omega,by omega⟩,by first|trivial|omega,by first|trivial|omega⟩
  ·obtain⟨⟨q1,q2,q3,q4⟩,q5,q6⟩:=hr;have a1:=Gd hTo x;have g1:=wh hTo (r.filter (bk k));have g2:=wi hTo (r.filter (bk k));have g3:=awF r;have e1:=Ge x k;simp only[fJ]at e1;by_cases cc:bk k x=true
   ·have hq:=cc;simp only[bk,Bool.and_eq_true,decide_eq_true_eq]at hq;obtain⟨hk7,_,n0,n1⟩:=hq;have cf:gY x=false:=by simp only[beq_iff_eq]at hk7;simp[gY,hk7]
    have Ut:x.node.toNat<T.length:=by omega
    have b1:=aqF Ut;have b2:=aqG Ut;rw[cc,cf]at e1;simp only[nK,List.filter_cons,cc,cf,if_true,Gc,MX,Bool.false_eq_true,if_false]at q5 q6;simp only[U9]at a1 q5 q6;have n1':x.node<((k:Nat):Int):=n1;refine aq (A9 @T0 d2 (af j0 hg) (af fJ hx) hkl e1 b1 b2 (A5 @adD @adE hTl n0 n1')) (JJ ?_);exact⟨(_,_),CT,by simp only[nK];omega⟩
   ·have cc:bk k x=false:=by simpa using cc
    rw[cc]at e1;by_cases cf:gY x=true
    ·rw[cf]at e1;simp only[nK,List.filter_cons,cc,cf,if_true,List.length_cons,Bool.false_eq_true,if_false]at q5 q6;refine aq (A6 @T0 d2 (af j0 hg) (af fJ hx) hkl e1) (JJ ?_);exact⟨(_,_),CT,by simp only[nK];omega⟩
    ·have cf:gY x=false:=by simpa using cf
     rw[cf]at e1;simp only[nK,List.filter_cons,cc,cf,Bool.false_eq_true,if_false]at q5 q6;refine aq (A5 d2 (af j0 hg) (af fJ hx) hkl e1) (JJ ?_);exact⟨(_,_),CT,by simp only[nK];omega⟩
  ·obtain⟨⟨q1,q2,q3,q4⟩,q5,q6⟩:=hr;simp only[nK,List.filter_nil,List.length_nil,Gc,MX,Int.add_zero,Int.natCast_zero]at q5 q6;have ea:a=rowOf T k f:=by obtain⟨a1,a2⟩:=a;simp only at q1 q2 q3 q4 q5 q6;exact Prod.ext (by simp only;omega) (by simp only;omega)
   subst ea;refine aq (A6 ej (af j0 hg) hkl @adD @adE hTl) (JJ ?_);exact⟨k+1,by rw[apx,apy,<-hT2];exact CT,by omega,by omega⟩
 ·have e1:k=n+1:=by omega
  subst e1;have hl:n<(jT l (n+1)).length:=by rw[jP];omega
  exact aq (A5 @adD @adE @jP (aqF hl) (aqG hl)) zz
end
end Go.Proofs.YtcokmopocppmiaaGreat

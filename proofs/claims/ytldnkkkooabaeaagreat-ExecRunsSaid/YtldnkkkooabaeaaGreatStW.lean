/- Instants: what equations tell; when nothing goes wrong. -/
import Derived.Test.YtldnkkkooabaeaaGreatStB
import Derived.Test.YtldnkkkooabaeaaGreatMsF
set_option linter.all false
set_option maxRecDepth 20000
namespace Go.Proofs.YtldnkkkooabaeaaGreat
open Go.Nk
abbrev aP:=List (B3×Ba)
def iP(k:B3):aP->Option Ba
 |[]=>none
 |e::r=>if k=e.1 then some e.2 else iP k r
def jR(k:B3)(v:Ba):aP->aP
 |[]=>[(k,v)]
 |e::r=>if k=e.1 then(k,v)::r else e::jR k v r
def n8(x:B3×Ba):B3×J:=(x.1,.sl (cC x.2))
theorem azR(k):∀env:aP,Cg k (env.map n8)=(iP k env).map λv=> .sl (cC v)
 |[]=>rfl
 |e::r=>by
  simp only[p0,Cg,iP,n8];split
  .rfl
  .exact azR k r
theorem lQ(k)(v):∀env:aP,HO k (.sl (cC v)) (env.map n8)=(jR k v env).map n8
 |[]=>rfl
 |e::r=>by
  simp only[p0,HO,jR,n8];split
  .rfl
  .exact C2 _ (lQ k v r)
theorem mX(k j)(v):∀env:aP,iP j (jR k v env)=if j=k then some v else iP j env
 |[]=>by simp only[jR,iP]
 |e::r=>by
  simp only[jR];split
  .simp_all[iP,gr,ba]
  next h=>simp only[iP,mX k j v r];grind
def dT(env:aP)(s:B3):Ba:=(iP s env).getD []
def aE(env:aP)(a:yI):Ba:=if a.1=[]then [a.2]else dT env a.1
def aZ(env:aP)(a:yI):Int:=(aE env a).getD 0 0
def bn(env:aP)(on:List gT):Bool:=on.all λc=>decide (dT env c.1=[c.2])
def br(q:Pl)(i:Nat):yI:=q.args.getD i ([],0)
def fu(f:Fl):List Va:=f.ins++f.outs++f.vars
def fO(f:Fl)(s:B3):Option Va:=(fu f).find? λv=>v.name==s
def K8:Va:=⟨[],0,0,0,[]⟩
def uB(f:Fl)(s:B3):Bool:=((fO f s).getD K8).k==2
def iG(f:Fl)(env:aP)(q:Pl):Int:=if uB f (br q 0).1 then IntKind.i64.wrap (1-aZ env (br q 0))else aZ env (br q 0)
def aN(f:Fl)(m:List cG)(env:aP)(q:Pl):Ba×Int:=
 if q.kind=2 then([(UB q.op (aZ env (br q 0))).1],(UB q.op (aZ env (br q 0))).2)
 else if q.kind=3 then([(Bq q.op (aZ env (br q 0)) (aZ env (br q 1))).1],(Bq q.op (aZ env (br q 0)) (aZ env (br q 1))).2)
 else if q.kind=4 then(if aZ env (br q 0)≠0 then aE env (br q 1)else aE env (br q 2),0)
 else if q.kind=5 then(D7 m (aw q),0)
 else if q.kind=6 then(aE env (br q ((iG f env q).toNat+1)),0)
 else if q.kind=8 then(q.args.map (aZ env),0)
 else if q.kind=9\/q.kind=10 then
  (if 0<=aZ env (br q 1)/\aZ env (br q 1)<(aE env (br q 0)).length then
   (if q.kind=9 then [(aE env (br q 0)).getD (aZ env (br q 1)).toNat 0]else(aE env (br q 0)).set (aZ env (br q 1)).toNat (aZ env (br q 2)),0)
  else([],16))
 else(aE env (br q 0),0)
structure Ed where
 env:aP
 th:List cG
abbrev TA:=Int->List cG->Bd->Bd×List cG×Int
def rL(l:cT)(m:List cG)(env:aP)(q:Pl):List cG:=
 if q.reset/\aZ env (q.ev,q.en)≠0 then aQ l q.node else gL m (aw q)
def bu:BS->Bd->aP->aP
 |s::r,v::w,env=>bu r w (jR s v env)
 |_,_,env=>env
def B7(l:cT)(rec:TA)(f:Fl)(m:List cG)(q:Pl)(s:Ed):Ed×Int:=
 if q.kind=7 then
  if(rec q.node (rL l m s.env q) (q.args.map (aE s.env))).2.2=0 then
   (⟨bu q.names (rec q.node (rL l m s.env q) (q.args.map (aE s.env))).1 s.env,mY s.th (aw q) (rec q.node (rL l m s.env q) (q.args.map (aE s.env))).2.1⟩,0)
  else(s,(rec q.node (rL l m s.env q) (q.args.map (aE s.env))).2.2)
 else(⟨jR (aw q) (aN f m s.env q).1 s.env,s.th⟩,(aN f m s.env q).2)
def ja(l:cT)(rec:TA)(f:Fl)(m:List cG):List Pl->Ed->Ed×Int
 |[],s=>(s,0)
 |q::r,s=>if bn s.env q.on then(if(B7 l rec f m q s).2=0 then ja l rec f m r (B7 l rec f m q s).1 else B7 l rec f m q s)else ja l rec f m r s
def tU(env:aP):List Pl->List cG->List cG
 |[],th=>th
 |q::r,th=>tU env r (if q.kind=5/\bn env q.on then yL th (aw q) (aE env (br q 0))else th)
def yN(f:Fl)(m:List cG)(ins:Bd):Ed:=⟨bu (f.ins.map (·.name)) ins [],m⟩
def _Y(l:cT)(rec:TA):TA:=λat_ m ins=>
 if(ja l rec (ad l at_) m (ad l at_).eqs (yN (ad l at_) m ins)).2=0 then
  ((ad l at_).outs.map λd=>dT (ja l rec (ad l at_) m (ad l at_).eqs (yN (ad l at_) m ins)).1.env d.name,
    tU (ja l rec (ad l at_) m (ad l at_).eqs (yN (ad l at_) m ins)).1.env (ad l at_).eqs (ja l rec (ad l at_) m (ad l at_).eqs (yN (ad l at_) m ins)).1.th,0)
 else([],m,(ja l rec (ad l at_) m (ad l at_).eqs (yN (ad l at_) m ins)).2)
def bK(l:cT):Nat->TA
 |0=>λ_ m _=>([],m,0)
 |n+1=>_Y l (bK l n)
abbrev OC:=Int->List cG->Bd->Prop
def B4(v:Ba):Prop:=v.length<=1000
def aW(f:Fl)(env:aP)(q:Pl):Prop:=
 if q.kind=2 then q.args.length=1/\aE env (br q 0)≠[]
 else if q.kind=3 then q.args.length=2/\aE env (br q 0)≠[]/\aE env (br q 1)≠[]/\ij (aZ env (br q 0))/\ij (aZ env (br q 1))
 else if q.kind=4 then q.args.length=3/\aE env (br q 0)≠[]
 else if q.kind=5 then True
 else if q.kind=6 then aE env (br q 0)≠[]/\q.args.length<=1000/\0<=iG f env q/\iG f env q+1<q.args.length
 else if q.kind=8 then q.args.length<=1000/\∀a∈q.args,aE env a≠[]
 else if q.kind=9 then q.args.length=2/\B4 (aE env (br q 0))/\aE env (br q 1)≠[]
 else if q.kind=10 then q.args.length=3/\B4 (aE env (br q 0))/\aE env (br q 1)≠[]/\aE env (br q 2)≠[]
 else 0<q.args.length
def kE(m:List cG):Prop:=m.length<=1000/\∀c∈m,c.dK.length<=1000/\c.path.length<=1000000
def UH(l:cT)(rec:TA)(ok:OC)(f:Fl)(m:List cG)(q:Pl)(s:Ed):Prop:=
 0<q.names.length/\(aw q).length<=1000/\kE m/\kE s.th/\
 if q.kind=7 then q.args.length<=1000/\q.names.length<=1000/\(q.reset=true->aE s.env (q.ev,q.en)≠[]/\qt l q.node=true)/\0<=q.node/\
  ok q.node (rL l m s.env q) (q.args.map (aE s.env))/\
  ((rec q.node (rL l m s.env q) (q.args.map (aE s.env))).2.2=0->(rec q.node (rL l m s.env q) (q.args.map (aE s.env))).1.length=q.names.length/\kE (rec q.node (rL l m s.env q) (q.args.map (aE s.env))).2.1)
 else q.names.length=1/\aW f s.env q
def VM(l:cT)(rec:TA)(ok:OC)(f:Fl)(m:List cG):List Pl->Ed->Prop
 |[],_=>True
 |q::r,s=>q.on.length<=1000/\if bn s.env q.on then UH l rec ok f m q s/\((B7 l rec f m q s).2=0->VM l rec ok f m r (B7 l rec f m q s).1)else VM l rec ok f m r s
def FV(env:aP):List Pl->List cG->Prop
 |[],_=>True
 |q::r,th=>q.on.length<=1000/\(q.kind=5/\bn env q.on=true->0<q.names.length/\0<q.args.length/\kE th/\B4 (aE env (br q 0)))/\
   FV env r (if q.kind=5/\bn env q.on then yL th (aw q) (aE env (br q 0))else th)
def ai5(l:cT)(rec:TA)(ok:OC):OC:=λat_ m ins=>
 0<=at_/\at_<l.fs.length/\(ad l at_).ins.length=ins.length/\ins.length<=1000/\(ad l at_).eqs.length<=100000/\(ad l at_).outs.length<=1000/\
 VM l rec ok (ad l at_) m (ad l at_).eqs (yN (ad l at_) m ins)/\
 ((ja l rec (ad l at_) m (ad l at_).eqs (yN (ad l at_) m ins)).2=0->
   FV (ja l rec (ad l at_) m (ad l at_).eqs (yN (ad l at_) m ins)).1.env (ad l at_).eqs (ja l rec (ad l at_) m (ad l at_).eqs (yN (ad l at_) m ins)).1.th/\
   ∀d∈(ad l at_).outs,B4 (dT (ja l rec (ad l at_) m (ad l at_).eqs (yN (ad l at_) m ins)).1.env d.name))
def oZ(l:cT):Nat->OC
 |0=>λ_ _ _=>False
 |n+1=>ai5 l (bK l n) (oZ l n)
def RI(en:List En)(t:Ty)(x:Ba):Prop:=jo en t x=true/\∀n∈x,ij n
theorem RI.parts{en}{t}{x:Ba}(h:RI en t x):bg en t=true/\(x.length:Int)=cY t/\(∀n∈x,yf en t n=true)/\∀n∈x,ij n:=by obtain⟨h1,h2⟩:=h;simp_all[jo,ab,GO,BE,EL]
theorem RI.mk'{en}{t}{x:Ba}(h1:bg en t=true)(h2:(x.length:Int)=cY t)(h3:∀n∈x,yf en t n=true/\ij n):RI en t x:=by refine⟨?_,λn hn=>(h3 n hn).2⟩;simp_all[jo,ab,GO,BE,EL]
theorem RI.len{en}{t}{x:Ba}(h:RI en t x):1<=x.length/\x.length<=8:=by have:=h.parts.2.1;have:=yF t;omega
theorem RI.ne{en}{t}{x}(h:RI en t x):x≠[]:=by intro e;have:=h.len.1;simp_all
theorem RI.one{en}{t:Ty}{x:Ba}(h:RI en t x)(ht:t.n=0):x=[x.getD 0 0]/\yf en t (x.getD 0 0)=true/\ij (x.getD 0 0):=by
 obtain⟨h1,h2,h3,h4⟩:=h.parts;have hc:cY t=1:=by simp[cY,ht]
 rw[hc]at h2;match x,h2,h3,h4 with
 |[n],_,h3,h4=>simp_all
theorem RI.single{en}{t:Ty}{n}(h1:bg en t=true)(ht:t.n=0)(h2:yf en t n=true)(h3:ij n):RI en t [n]:=
 RI.mk' h1 (by simp[cY,ht]) (λm hm=>by simp_all)
def z6(v:Va):Ty:=⟨v.k,v.e,v.l⟩
def uD(f:Fl)(s:B3):Ty:=z6 ((fO f s).getD K8)
abbrev Shape:=List (B3×Ty)
def B6(p:B3)(x:B3×Ty):B3×Ty:=(p++x.1,x.2)
def aK(l:cT):Nat->Int->Shape
 |0,_=>[]
 |n+1,at_=>((ad l at_).eqs.filter gF).map (λq=>(aw q,uD (ad l at_) (aw q)))++
   ((ad l at_).eqs.filter (bt at_)).flatMap λq=>(aK l n q.node).map (B6 (aw q++[47]))
def mb(en:List En):Shape->List cG->Prop
 |[],[]=>True
 |x::s,c::m=>c.path=x.1/\RI en x.2 c.dK/\mb en s m
 |_,_=>False
theorem Rb{en}:∀{s:Shape} {m:List cG},mb en s m->s.length=m.length
 |[],[],_=>rfl
 |x::s,c::m,h=>by simp[Rb h.2.2]
 |[],_::_,h=>h.elim
 |_::_,[],h=>h.elim
theorem B9{en}:∀{s:Shape} {m:List cG},mb en s m->∀c∈m,∃x∈s,c.path=x.1/\RI en x.2 c.dK
 |[],[],_,c,hc=>by simp at hc
 |x::s,d::m,h,c,hc=>by
  rcases NO.1 hc with rfl|hc
  .exact⟨x,by simp,h.1,h.2.1⟩
  .obtain⟨y,hy,e⟩:=B9 h.2.2 c hc;exact⟨y,by simp[hy],e⟩
 |[],_::_,h,_,_=>h.elim
 |_::_,[],h,_,_=>h.elim
theorem TB{en}:∀{s t:Shape} {m:List cG},mb en (s++t) m->∃a b,m=a++b/\mb en s a/\mb en t b
 |[],t,m,h=>⟨[],m,rfl,trivial,h⟩
 |x::s,t,c::m,h=>by obtain⟨a,b,e,h1,h2⟩:=TB (s:=s) (t:=t) h.2.2;exact⟨c::a,b,by rw[e];rfl,⟨h.1,h.2.1,h1⟩,h2⟩
 |_::_,_,[],h=>h.elim
theorem Nh{en}:∀{s t:Shape} {a b:List cG},mb en s a->mb en t b->mb en (s++t) (a++b)
 |[],t,[],b,_,h=>h
 |x::s,t,c::a,b,h,k=>⟨h.1,h.2.1,Nh h.2.2 k⟩
 |[],_,_::_,_,h,_=>h.elim
 |_::_,_,[],_,h,_=>h.elim
theorem adM{en}(p):∀{s:Shape} {m:List cG},mb en (s.map (B6 p)) m->∃m',m=m'.map (jh p)/\mb en s m'
 |[],[],_=>⟨[],rfl,BB⟩
 |x::s,c::m,h=>by obtain⟨m',e,k⟩:=adM p (s:=s) h.2.2;refine⟨⟨x.1,c.dK⟩::m',?_,rfl,h.2.1,k⟩;rw[p0,<-e];congr 1;obtain⟨aI0,cv⟩:=c;have:=h.1;simp only[B6]at this;simp[jh,this]
 |[],_::_,h=>h.elim
 |_::_,[],h=>h.elim
theorem azW{en}(p):∀{s:Shape} {m:List cG},mb en s m->mb en (s.map (B6 p)) (m.map (jh p))
 |[],[],_=>trivial
 |x::s,c::m,h=>⟨by simp[B6,jh,h.1],h.2.1,azW p h.2.2⟩
 |[],_::_,h=>h.elim
 |_::_,[],h=>h.elim
theorem Ni{en:List En}(g:cG->Ba):∀{s:Shape} {m:List cG},mb en s m->(∀x∈s,∀c∈m,c.path=x.1->RI en x.2 c.dK->RI en x.2 (g c))->mb en s (m.map λc=>⟨c.path,g c⟩)
 |[],[],_,_=>trivial
 |x::s,c::m,h,k=>⟨h.1,k x (by simp) c (by simp) h.1 h.2.1,Ni g h.2.2 λy hy d Z=>k y (by simp[hy]) d (by simp[Z])⟩
 |[],_::_,h,_=>h.elim
 |_::_,[],h,_=>h.elim
theorem TC{en}{t}(p):∀{s:Shape} {m:List cG},mb en s m->(∀x∈s,x.1=p->x.2=t)->(∃x∈s,x.1=p)->∃v,vf m p=some v/\RI en t v
 |[],_,_,_,h=>by simp_all
 |x::s,c::m,h,k,e=>by
  by_cases q:c.path=p
  .exact⟨c.dK,by rw[vf,gr q],by rw[<-k x (by simp) (h.1.symm.trans q)];exact h.2.1⟩
  .rw[vf,ba q];refine TC p h.2.2 (λy hy=>k y (by simp[hy])) ?_;obtain⟨y,hy,e⟩:=e;rcases NO.1 hy with rfl|hy
   .exact absurd (h.1.trans e) q
   grind
 |_::_,[],h,_,_=>h.elim
def tj(s:B3):Prop:=(47:UInt8)∉s
theorem uQ{a b r s}(ha:tj a)(hb:tj b)(h:a++[47]++r=b++[47]++s):a=b/\r=s:=by
 induction a generalizing b with
 |nil=>
  cases b with
  |nil=>simpa using h
  |cons x b=>simp at h;exact absurd (by simp_all) hb
 |cons x a ih=>
  cases b with
  |nil=>simp at h;exact absurd (by simp[h.1]) ha
  |cons y b=>
   simp only[Cr,DO]at h;obtain⟨h1,h2⟩:=ih (λhm=>ha (XN _ hm)) (λhm=>hb (XN _ hm)) (by simp_all);simp_all
theorem xS{a b r}(ha:tj a):a≠b++[47]++r:=λe=>ha (by rw[e];simp)
theorem aaW(n r):xW (n++[47]++r) (under n)=true:=by grind[KN,under,List.take_left]
theorem IV{s n:B3}(h:xW s (under n)=true):s=n++[47]++s.drop (n.length+1):=by grind[KN,List.take_append_drop,under]
theorem ahd(n)(c):yn n (jh (n++[47]) c)=[c]:=by simp_all[xW,jh,under,aaW,List.drop_left,yn,gr]
theorem Dn{n p}{c}(hn:tj n)(B:tj p)(h:n≠p)(r)(e:c=jh (p++[47]) r):yn n c=[]:=by
 unfold yn;cases q:xW c.path (under n)with
 |false=>rfl
 |true=>
  have:=IV q;rw[e]at this;exact absurd (uQ B hn this).1.symm h
theorem az3{n}{c:cG}(h:tj c.path):yn n c=[]:=by grind[yn,xW,under,absurd,IV,xS]
theorem nM{α β}{f:α->List β}:∀{l:List α},(∀x∈l,f x=[])->l.flatMap f=[]
 |[],_=>rfl
 |x::l,h=>by simp_all
theorem Lv(n):∀m:List cG,gL (m.map (jh (n++[47]))) n=m
 |[]=>rfl
 |c::m=>by have:=Lv n m;unfold gL at this|-;rw[p0,Cq,ahd,this];rfl
theorem Dm(a b)(n):gL (a++b) n=gL a n++gL b n:=by unfold gL;simp_all
structure nJ(f:Fl):Prop where
 bar:∀q∈f.eqs,tj (aw q)
 one:f.eqs.Pairwise λa b=>aw a≠aw b
theorem nJ.uniq{f:Fl}(h:nJ f){a b}(ha:a∈f.eqs)(hb:b∈f.eqs)(e:aw a=aw b):a=b:=by
 have key:∀l:List Pl,l.Pairwise (λa b=>aw a≠aw b)->a∈l->b∈l->a=b:=by intro l;induction l<;>grind[OW,NO,absurd]
 exact key _ h.one ha hb
theorem alX{l:cT}{n:Nat}{at_:Int}{m:List cG}{en:List En}(h:mb en (aK l (n+1) at_) m):
 ∃a b,m=a++b/\mb en (((ad l at_).eqs.filter gF).map (λq=>(aw q,uD (ad l at_) (aw q)))) a/\
  mb en (((ad l at_).eqs.filter (bt at_)).flatMap λq=>(aK l n q.node).map (B6 (aw q++[47]))) b:=TB h
theorem adN{en:List En}{S:Pl->Shape}{q:Pl}:∀{l:List Pl} {b:List cG},mb en (l.flatMap λq=>(S q).map (B6 (aw q++[47]))) b->(∀x∈l,tj (aw x))->
 l.Pairwise (λa b=>aw a≠aw b)->q∈l->mb en (S q) (gL b (aw q))
 |[],_,_,_,_,h=>by simp at h
 |x::l,b,h,hb,B,hq=>by
  rw[Cq]at h;obtain⟨b1,b2,e,h1,h2⟩:=TB h;obtain⟨m1,Y,k1⟩:=adM _ h1;obtain⟨p1,p2⟩:=OW.1 B;rw[e,Dm];rcases NO.1 hq with rfl|hq
  .rw[Y,Lv];have:gL b2 (aw q)=[]:=by
    refine nM λc hc=>?_;obtain⟨y,hy,T7,_⟩:=B9 h2 c hc;obtain⟨z,hz,KZ⟩:=Eg.1 hy;obtain⟨w,hw,rfl⟩:=It.1 KZ;exact Dn (hb q (by simp)) (hb z (by simp[hz])) (p1 z hz) ⟨w.1,c.dK⟩ (by
     obtain⟨aI0,cv⟩:=c;simp only[B6]at T7;simp[jh,T7])
   simp_all
  .have:gL b1 (aw q)=[]:=by refine nM λc hc=>?_;rw[Y]at hc;obtain⟨w,_,rfl⟩:=It.1 hc;exact Dn (hb q (by simp[hq])) (hb x (by simp)) (λh=>p1 q hq h.symm) w rfl
   rw[this,Bz];exact adN h2 (λy hy=>hb y (by simp[hy])) p2 hq
theorem alY{l:cT}{n:Nat}{at_:Int}{m:List cG}{en:List En}(hN:nJ (ad l at_))(h:mb en (aK l (n+1) at_) m){q:Pl}(hq:q∈(ad l at_).eqs)(hc:bt at_ q=true):
 mb en (aK l n q.node) (gL m (aw q)):=by
 obtain⟨a,b,rfl,h1,h2⟩:=alX h;rw[Dm];have:gL a (aw q)=[]:=by refine nM λc hc=>?_;obtain⟨y,hy,T7,_⟩:=B9 h1 c hc;obtain⟨z,hz,rfl⟩:=It.1 hy;exact az3 (by rw[T7];exact hN.bar z (PC.1 hz).1)
 rw[this,Bz];exact adN (S:=λq=>aK l n q.node) h2 (λx U=>hN.bar x (PC.1 U).1) (hN.one.filter _) (PC.2 ⟨hq,hc⟩)
theorem u4{l}{n}{at_}{x}(h:x∈aK l (n+1) at_):
 (∃q∈(ad l at_).eqs,gF q=true/\x=(aw q,uD (ad l at_) (aw q)))\/∃q∈(ad l at_).eqs,bt at_ q=true/\∃y∈aK l n q.node,x=B6 (aw q++[47]) y:=by
 rcases pt.1 h with h|h<;>grind
theorem az4{l}(hN:∀at_:Int,nJ (ad l at_)):∀(n:Nat) (at_:Int) (x y:B3×Ty),x∈aK l n at_->y∈aK l n at_->x.1=y.1->x.2=y.2
 |0,_,_,_,h,_,_=>by simp[aK]at h
 |n+1,at_,x,y,U,hy,e=>by
  have hb:=(hN at_).bar;rcases u4 U with⟨q,hq,_,rfl⟩|⟨q,hq,_,x',A3,rfl⟩<;>rcases u4 hy with⟨r,E,_,rfl⟩|⟨r,E,_,y',N5,rfl⟩
  .simp only at e|-;rw[e]
  .exact absurd e (xS (hb q hq))
  .exact absurd e.symm (xS (hb r E))
  .obtain⟨Y,e2⟩:=uQ (hb q hq) (hb r E) e;have:=(hN at_).uniq hq E Y;subst this;exact az4 hN n q.node x' y' A3 N5 e2
theorem auA{l:cT}{n:Nat}{at_:Int}{m:List cG}{en:List En}(hN:nJ (ad l at_))(h:mb en (aK l (n+1) at_) m){s:B3}(I:tj s){v:Ba}(hv:RI en (uD (ad l at_) s) v):
 mb en (aK l (n+1) at_) (yL m s v):=by
 unfold yL turn;refine Ni _ h λx U c hc e E=>?_;simp only[Ta,UF];split
 .rename_i ec;rcases u4 U with⟨q,hq,_,rfl⟩|⟨q,hq,_,x',A3,rfl⟩
  .simp_all
  .exact absurd (ec.symm.trans e) (xS I)
 .exact E
theorem aq3{l:cT}{n:Nat}{at_:Int}{m sub:List cG}{en:List En}(hN:∀at_:Int,nJ (ad l at_))(h:mb en (aK l (n+1) at_) m){q:Pl}(hq:q∈(ad l at_).eqs)
 (og:mb en (aK l n q.node) sub):mb en (aK l (n+1) at_) (mY m (aw q) sub):=by
 unfold mY turn;refine Ni _ h λx U c hc e E=>?_;simp only[Ta,VF];split
 .rename_i B;simp only[ab]at B;have ec:=IV B.1;have T0:TY c.path (under (aw q))=c.path.drop ((aw q).length+1):=by unfold TY;rw[B.1,gr rfl];simp[under]
  rw[T0]at B|-;rcases u4 U with⟨r,tO,_,rfl⟩|⟨r,tO,hrc,x',A3,rfl⟩
  .exact absurd (e.symm.trans ec) (xS ((hN at_).bar r tO))
  .have e2:=e.symm.trans ec;obtain⟨e3,e4⟩:=uQ ((hN at_).bar r tO) ((hN at_).bar q hq) e2;have:=(hN at_).uniq tO hq e3;subst this;obtain⟨v,hv,Dj⟩:=TC (t:=x'.2) (c.path.drop ((aw r).length+1)) og (λy hy e5=>az4 hN n r.node y x' hy A3 (e5.trans e4.symm)) ⟨x',A3,e4⟩;unfold D7;rw[hv];exact Dj
 .exact E
theorem auB{l}{n}{at_}{m}{en}(hN:nJ (ad l at_))(h:mb en (aK l (n+1) at_) m){q}(hq:q∈(ad l at_).eqs)(hf:gF q=true):
 RI en (uD (ad l at_) (aw q)) (D7 m (aw q)):=by
 obtain⟨v,hv,E⟩:=TC (t:=uD (ad l at_) (aw q)) (aw q) h (λx U e=>by
  rcases u4 U with⟨r,E,_,rfl⟩|⟨r,E,_,x',A3,rfl⟩
  .simp_all
  .exact absurd e.symm (xS (hN.bar q hq))) ⟨(aw q,uD (ad l at_) (aw q)),pt.2 (.inl (It.2 ⟨q,PC.2 ⟨hq,hf⟩,rfl⟩)),rfl⟩
 unfold D7;simp_all
def tI:Ty:=⟨1,0,0⟩
def tB:Ty:=⟨2,0,0⟩
def lN(en:List En)(f:Fl)(a:yI)(t:Ty)(on:List gT):Prop:=
 (a.1=[]/\RI en t [a.2])\/(a.1≠[]/\∃v,fO f a.1=some v/\z6 v=t/\v.on=on)
def _Z(en:List En)(t:Ty):Nat:=(en.getD t.e.toNat default).ct.length
inductive _a(en:List En)(f:Fl)(q:Pl)(t:Ty):Prop
 |copy (a:yI) (on:List gT) (h1:q.kind=1) (h2:q.args=[a]) (h3:q.on=on\/∃c,q.on=on++[c]) (h4:lN en f a t on)
 |un (a:yI) (u:Ty) (h1:q.kind=2) (h2:q.args=[a]) (h3:lN en f a u q.on) (h4:xb q.op u=(t,true))
 |bin (a b:yI) (u w:Ty) (h1:q.kind=3) (h2:q.args=[a,b]) (h3:lN en f a u q.on) (h4:lN en f b w q.on) (h5:dV q.op u w=(t,true))
 |ite (a b c:yI) (h1:q.kind=4) (h2:q.args=[a,b,c]) (h3:lN en f a tB q.on) (h4:lN en f b t q.on) (h5:lN en f c t q.on)
 |Ln (a:yI) (h1:q.kind=5) (h2:q.args=[a]) (h3:lN en f a t q.on) (h4:RI en t q.init)
 |HU (x:B3) (v:Va) (a b:yI) (h1:q.kind=6) (h2:q.args=[(x,0),a,b]) (h3:x≠[]) (h4:fO f x=some v) (h5:v.on=q.on) (h6:z6 v=tB)
  (h7:lN en f a t (q.on++[(x,1)])) (h8:lN en f b t (q.on++[(x,0)]))
 |HV (x:B3) (v:Va) (l:List yI) (h1:q.kind=6) (h2:q.args=(x,0)::l) (h3:x≠[]) (h4:fO f x=some v) (h5:v.on=q.on) (h6:v.k=3/\v.l=0)
  (h7:l.length=_Z en (z6 v)) (h8:∀(j:Nat) (a:yI),l[j]? =some a->lN en f a t (q.on++[(x,(j:Int))]))
 |arr (h1:q.kind=8) (h2:(q.args.length:Int)=t.n) (h3:∀a∈q.args,lN en f a (F6 t) q.on) (h4:0<t.n)
 |at_ (a b:yI) (u:Ty) (h1:q.kind=9) (h2:q.args=[a,b]) (h3:lN en f a u q.on) (h4:0<u.n) (h5:lN en f b tI q.on) (h6:t=F6 u)
 |set (a b c:yI) (h1:q.kind=10) (h2:q.args=[a,b,c]) (h3:lN en f a t q.on) (h4:0<t.n) (h5:lN en f b tI q.on) (h6:lN en f c (F6 t) q.on)
structure av5(l:cT)(i:Nat)(f:Fl)(q:Pl):Prop where
 kind:q.kind=7
 node:0<=q.node/\q.node<i
 ins:q.args.length=(ad l q.node).ins.length
 arg:∀(j:Nat) (a:yI) (d:Va),q.args[j]? =some a->(ad l q.node).ins[j]? =some d->lN l.enums f a (z6 d) q.on
 outs:q.names.length=(ad l q.node).outs.length
 out:∀(j:Nat) (s:B3) (d:Va),q.names[j]? =some s->(ad l q.node).outs[j]? =some d->uD f s=z6 d
 every:q.reset=true->lN l.enums f (q.ev,q.en) tB q.on
def dI(l:List Pl):BS:=l.flatMap (·.names)
structure KP(l:cT)(i:Nat)(f:Fl)(q:Pl):Prop where
 ne:q.names≠[]
 nm:∀s∈q.names,∃v,fO f s=some v/\v.on=q.on
 on:∀c∈q.on,c.1≠[]/\∃v,fO f c.1=some v
 len:q.on.length<=1000/\q.args.length<=1000/\q.names.length<=1000
 rs:(q.reset=true->q.kind=7)/\(q.init≠[]->q.kind=5)
 body:(q.names.length=1/\_a l.enums f q (uD f (aw q)))\/av5 l i f q
structure tl(l:cT)(i:Nat)(f:Fl):Prop where
 uniq:(fu f).Pairwise λa b=>a.name≠b.name
 var:∀v∈fu f,bg l.enums (z6 v)=true/\v.name≠[]/\tj v.name/\v.name.length<=1000
 io:∀v∈f.ins++f.outs,v.on=[]
 eq:∀q∈f.eqs,KP l i f q
 once:(dI f.eqs).Pairwise (·≠·)
 vI:∀s∈dI f.eqs,∀d∈f.ins,d.name≠s
 Zy:∀v∈f.outs++f.vars,v.name∈dI f.eqs
 ord:∀(k:Nat) (q:Pl),f.eqs[k]? =some q->∀s∈gA q,s∈f.ins.map (·.name)\/s∈dI (f.eqs.take k)
 sz:f.ins.length<=1000/\f.outs.length<=1000/\f.eqs.length<=100000
theorem oV{f}{s}{v:Va}(h:fO f s=some v):v∈fu f/\v.name=s:=by grind[fO,V3]
theorem qe{s}{v:Va}:∀{l:List Va},l.Pairwise (λa b=>a.name≠b.name)->v∈l->v.name=s->l.find? (λv=>v.name==s)=some v
 |[],_,h,_=>by simp at h
 |x::l,B,h,e=>by
  obtain⟨h1,h2⟩:=OW.1 B;rw[Kb];rcases NO.1 h with h|h
  .simp_all
  .have:(x.name==s)=false:=by grind
   rw[this];exact qe h2 h e
def tl.fO{l}{i}{f}(h:tl l i f){v:Va}(hv:v∈fu f):=show Proofs.YtldnkkkooabaeaaGreat.fO f v.name=_ from qe h.uniq hv rfl
theorem pg{l}{q:Pl}{s}(hq:q∈l)(I:s∈q.names):s∈dI l:=Eg.2 ⟨q,hq,I⟩
theorem mZ(a b:List Pl):dI (a++b)=dI a++dI b:=List.flatMap_append
theorem uS{q:Pl}(h:q.names≠[]):aw q∈q.names:=by grind[aw,absurd]
theorem tl.names{l}{i}{f}(h:tl l i f):nJ f:=by
 refine⟨λq hq=>?_,?_⟩
 .obtain⟨v,hv,_⟩:=(h.eq q hq).nm _ (uS (h.eq q hq).ne);obtain⟨h1,h2⟩:=oV hv;rw[<-h2];exact(h.var v h1).2.2.1
 .have key:∀l:List Pl,(∀q∈l,q.names≠[])->(dI l).Pairwise (·≠·)->l.Pairwise λa b=>aw a≠aw b:=by
   intro l;induction l with
   |nil=>simp_all
   |cons x l ih=>
    grind[dI,Cq,Cz,OW,uS,pg]
  exact key _ (λq hq=>(h.eq q hq).ne) h.once
structure Bs(en:List En)(f:Fl)(env:aP)(done:BS):Prop where
 there:∀v∈fu f,v.name∈done->bn env v.on=true->∃x,iP v.name env=some x/\RI en (z6 v) x
 gone:∀v∈fu f,v.name∈done->bn env v.on=false->iP v.name env=none
 not:∀v∈fu f,v.name∉done->iP v.name env=none
 dec:∀s∈done,∃v∈fu f,v.name=s
 _b:∀v∈fu f,v.name∈done->∀c∈v.on,c.1∈done
theorem HW(env)(a b):bn env (a++b)=(bn env a&&bn env b):=by simp[bn]
theorem wN{env _d}{on}(h:∀c∈on,iP c.1 _d=iP c.1 env):bn _d on=bn env on:=by unfold bn;rw[Bool.eq_iff_iff,BE,BE];grind[dT]
theorem AU{en}{f}{env}{done}(h:Bs en f env done){a:yI}{t}{on}(ha:lN en f a t on)(Z:a.1≠[]->a.1∈done)(ho:bn env on=true):RI en t (aE env a):=by
 rcases ha with⟨h1,h2⟩|⟨h1,v,h2,h3,h4⟩
 .unfold aE;simp_all
 .obtain⟨hm,hn⟩:=oV h2;obtain⟨x,U,E⟩:=h.there v hm (by simp_all) (by simp_all);simp_all[aE,dT,ba]
theorem lS{k}:∀{S:BS} {vs:Bd} {env:aP},k∉S->iP k (bu S vs env)=iP k env
 |[],_,_,_=>by simp[bu]
 |s::S,[],_,_=>by simp[bu]
 |s::S,v::vs,env,h=>by simp_all[bu,lS,mX,ba]
theorem az5{en:List En}{P:B3->Ty}:∀{S:BS} {vs:Bd} {env:aP},S.Pairwise (·≠·)->vs.length=S.length->(∀(j:Nat) (s:B3) (v:Ba),S[j]? =some s->vs[j]? =some v->RI en (P s) v)->
 ∀k∈S,∃x,iP k (bu S vs env)=some x/\RI en (P k) x
 |[],_,_,_,_,_,k,hk=>by simp at hk
 |s::S,[],_,_,hl,_,_,_=>by simp at hl
 |s::S,v::vs,env,B,hl,E,k,hk=>by
  obtain⟨h1,h2⟩:=OW.1 B;rw[bu];by_cases e:k∈S
  .exact az5 h2 (by simp_all) (λj s v I hv=>E (j+1) s v (by simp_all) (by simp_all)) k e
  .rcases NO.1 hk with e2|e2
   .subst e2;rw[lS e,mX,gr rfl];exact⟨v,rfl,E 0 k v rfl rfl⟩
   simp_all
theorem Bs.add{en:List En}{f:Fl}{env:aP}{done:BS}(hu:(fu f).Pairwise λa b=>a.name≠b.name)(h:Bs en f env done){S:BS}{vs:Bd}{on:List gT}(B:S.Pairwise (·≠·))(hl:vs.length=S.length)
 (E:∀(j:Nat) (s:B3) (v:Ba),S[j]? =some s->vs[j]? =some v->RI en (uD f s) v) (hn:∀s∈S,s∉done) (hv:∀s∈S,∃v,fO f s=some v/\v.on=on)
 (hc:∀c∈on,c.1∈done) (ho:bn env on=true):Bs en f (bu S vs env) (S++done):=by
 have old:∀k∈done,iP k (bu S vs env)=iP k env:=λk hk=>lS λhm=>hn k hm hk;have hold:∀v∈fu f,v.name∈done->bn (bu S vs env) v.on=bn env v.on:=λv hv Z=>wN λc hc=>old _ (h._b v hv Z c hc);have new:∀v∈fu f,v.name∈S->v.on=on:=λv D8 I=>by obtain⟨w,hw,e⟩:=hv _ I;rw[show Proofs.YtldnkkkooabaeaaGreat.fO f v.name=some v from qe hu D8 rfl]at hw;simp_all
 have Ac:bn (bu S vs env) on=true:=by grind[wN]
 refine⟨λv hm Z hh=>?_,λv hm Z hh=>?_,λv hm Z=>?_,λs I=>?_,λv hm Z c kX=>?_⟩
 .by_cases e:v.name∈S
  .obtain⟨x,U,hxr⟩:=az5 (P:=uD f) (env:=env) B hl E _ e;refine⟨x,U,?_⟩;have:uD f v.name=z6 v:=by unfold uD;rw[show Proofs.YtldnkkkooabaeaaGreat.fO f v.name=some v from qe hu hm rfl];rfl
   simp_all
  .have xo:v.name∈done:=(pt.1 Z).resolve_left e;rw[hold v hm xo]at hh;rw[old _ xo];exact h.there v hm xo hh
 .by_cases e:v.name∈S
  .simp_all
  .have xo:v.name∈done:=(pt.1 Z).resolve_left e;rw[hold v hm xo]at hh;rw[old _ xo];exact h.gone v hm xo hh
 .rw[lS λI=>Z (pt.2 (.inl I))];exact h.not v hm λI=>Z (pt.2 (.inr I))
 .rcases pt.1 I with I|I
  .grind[oV]
  .exact h.dec s I
 .rcases pt.1 Z with e|e
  .grind
  .exact pt.2 (.inr (h._b v hm e c kX))
theorem Bs.skip{en:List En}{f:Fl}{env:aP}{done:BS}(hu:(fu f).Pairwise λa b=>a.name≠b.name)(h:Bs en f env done){S:BS}{on:List gT}(hn:∀s∈S,s∉done)(hv:∀s∈S,∃v,fO f s=some v/\v.on=on)
 (hc:∀c∈on,c.1∈done) (ho:bn env on=false):Bs en f env (S++done):=by
 have new:∀v∈fu f,v.name∈S->v.on=on:=λv D8 I=>by obtain⟨w,hw,e⟩:=hv _ I;rw[show Proofs.YtldnkkkooabaeaaGreat.fO f v.name=some v from qe hu D8 rfl]at hw;simp_all
 refine⟨λv hm Z hh=>?_,λv hm Z hh=>?_,λv hm Z=>h.not v hm λI=>Z (pt.2 (.inr I)),λs I=>?_,λv hm Z c kX=>?_⟩
 .rcases pt.1 Z with e|e
  .simp_all
  .exact h.there v hm e hh
 .rcases pt.1 Z with e|e
  .exact h.not v hm (hn _ e)
  .exact h.gone v hm e hh
 .rcases pt.1 I with I|I
  .grind[oV]
  .exact h.dec s I
 .rcases pt.1 Z with e|e
  .grind
  .exact pt.2 (.inr (h._b v hm e c kX))
theorem Tz(en):bg en tI=true:=by simp[bg,tI]
theorem zL(en):bg en tB=true:=by simp[bg,tB]
theorem RI.int{en}{n}(h:ij n):RI en tI [n]:=RI.single (Tz en) rfl (by simp[yf,tI]) h
theorem RI.bool{en}{n}(h:n=0\/n=1):RI en tB [n]:=RI.single (zL en) rfl (by simpa[yf,tB]using h) (by rcases h with rfl|rfl<;>(unfold ij;omega))
theorem RI.jF{en}{x:Ba}(h:RI en tB x):x=[x.getD 0 0]/\(x.getD 0 0=0\/x.getD 0 0=1):=by obtain⟨h1,h2,_⟩:=h.one rfl;exact⟨h1,by simpa[yf,tB]using h2⟩
theorem av6(b):tr b=0\/tr b=1:=by cases b<;>simp[tr]
theorem Nd(x):ij (IntKind.i64.wrap x):=by simp only[IntKind.wrap_i64,ij];omega
theorem aq5{en}{op}{u t}{x:Ba}(h:xb op u=(t,true))(U:RI en u x):(UB op (x.getD 0 0)).2=0/\RI en t [(UB op (x.getD 0 0)).1]:=by
 unfold xb at h;split at h
 next c=>injection h with h _;subst h;simp only[UB,gr c.1];exact⟨BB,RI.int (Nd _)⟩
 .split at h
  .rename_i c;injection h with h _;subst h;have:¬op=1:=by omega
   simp only[UB,ba this,gr c.1];exact⟨BB,RI.bool (av6 _)⟩
  .cases h
theorem alZ{a b:Int}(ha:ij a)(hb:b≠0):ij (a.tmod b):=by
 unfold ij at*;have h1:(a.tmod b).natAbs<=a.natAbs:=by rw[Int.natAbs_tmod];exact Nat.mod_le _ _
 rcases Int.le_total 0 a with c|c
 .omega
 .have h2:=Int.tmod_nonneg b (show 0<= -a by omega);rw[Int.neg_tmod]at h2;omega
theorem al0{en}{op}{u w t}{x y:Ba}(h:dV op u w=(t,true))(U:RI en u x)(hy:RI en w y):
 ij (x.getD 0 0)/\ij (y.getD 0 0)/\((Bq op (x.getD 0 0) (y.getD 0 0)).2=0->RI en t [(Bq op (x.getD 0 0) (y.getD 0 0)).1]):=by
 have hh:(u.n=0/\w.n=0)/\((qj op=1/\t=tI)\/((qj op=2\/qj op=3\/qj op=4)/\t=tB)):=by
  unfold dV at h;split at h
  .rename_i g;split at h
   next c=>simp only[ab,iW,ir]at c;injection h with h _;rw[c.1,c.2];exact⟨⟨rfl,rfl⟩,.inl ⟨g,h.symm⟩⟩
   .cases h
  .split at h
   .rename_i g;split at h
    next c=>simp only[ab,iW,ir]at c;injection h with h _;rw[c.1,c.2];exact⟨⟨rfl,rfl⟩,.inr ⟨.inl g,h.symm⟩⟩
    .cases h
   .split at h
    .rename_i g;split at h
     next c=>simp only[ab,iW,ir]at c;injection h with h _;rw[c.1,c.2];exact⟨⟨rfl,rfl⟩,.inr ⟨.inr (.inl g),h.symm⟩⟩
     .cases h
    .split at h
     .rename_i g;split at h
      next c=>simp only[ab,iW,ir,GO]at c;injection h with h _;rw[<-c.1];exact⟨⟨c.2,c.2⟩,.inr ⟨.inr (.inr g),h.symm⟩⟩
      .cases h
     .cases h
 obtain⟨⟨h1,h2⟩,h3⟩:=hh;have a64:=(U.one h1).2.2;have b64:=(hy.one h2).2.2;refine⟨a64,b64,λhe=>?_⟩;generalize x.getD 0 0=a at*;generalize y.getD 0 0=b at*;unfold qj at h3;unfold Bq at he|-;rcases h3 with⟨g,rfl⟩|⟨g,rfl⟩
 .have c:3<=op/\op<=7:=by omega
  rw[gr c]at he|-;grind[RI.int,EG,Nd,ij,alZ]
 .have c:8<=op/\op<=16:=by omega
  have c2:¬(3<=op/\op<=7):=by omega
  simp_all[ba,gr,RI.bool,av6]
theorem az9{en}{t}(h:bg en t=true):bg en (F6 t)=true:=by unfold bg at h|-;simp only[F6,ab]at h|-;grind
theorem aAa{en}{t:Ty}(h:bg en t=true)(h0:0<t.n):cY t=t.n:=by simp only[bg,ab,ir]at h;unfold cY;omega
theorem iu{q:Pl}{i:Nat}{a:yI}(h:q.args[i]? =some a):br q i=a:=by unfold br;simp_all
theorem mem_reads{q:Pl}{a:yI}(h5:q.kind≠5)(ha:a∈q.args)(hn:a.1≠[]):a.1∈gA q:=by unfold gA;grind
theorem uE{q:Pl}{c:gT}(hc:c∈q.on)(hn:c.1≠[]):c.1∈gA q:=by unfold gA;grind
theorem aI1{q:Pl}(E:q.reset=true)(hn:q.ev≠[]):q.ev∈gA q:=by simp_all[gA,PC,gr,pt]
theorem adO{l:cT}{i}{f}{q:Pl}{m}{env}{done}(hP:Bs l.enums f env done)(hq:KP l i f q)(ht:bg l.enums (uD f (aw q))=true)
 (Z:∀s∈gA q,s∈done) (ho:bn env q.on=true) (hm:q.kind=5->RI l.enums (uD f (aw q)) (D7 m (aw q))) (hk:_a l.enums f q (uD f (aw q))):
 aW f env q/\((aN f m env q).2=0->RI l.enums (uD f (aw q)) (aN f m env q).1):=by
 have hA:∀(a:yI) (t:Ty) (on:List gT),a∈q.args->q.kind≠5->lN l.enums f a t on->bn env on=true->RI l.enums t (aE env a):=λa t on ha h5 FG Ac=>
  AU hP FG (λhn=>Z _ (mem_reads h5 ha hn)) Ac
 cases hk with
 |copy a on h1 h2 h3 h4=>
  have Ac:bn env on=true:=by rcases h3 with h3|⟨c,h3⟩<;>simp_all[HW,ab]
  have e:=iu (q:=q) (i:=0) (a:=a) (by rw[h2];rfl);grind[aW,aN]
 |un a u h1 h2 h3 h4=>
  have e:=iu (q:=q) (i:=0) (a:=a) (by rw[h2];rfl);have r:=hA a u q.on (by rw[h2];simp) (by omega) h3 ho;have k:=aq5 h4 r;simp only[aW,aN,h1,e,h2,aZ];exact⟨by simpa using r.ne,λ_=>by simp_all⟩
 |bin a b u w h1 h2 h3 h4 h5=>
  have e:=iu (q:=q) (i:=0) (a:=a) (by rw[h2];rfl);have e':=iu (q:=q) (i:=1) (a:=b) (by rw[h2];rfl);have r:=hA a u q.on (by rw[h2];simp) (by omega) h3 ho;have r':=hA b w q.on (by rw[h2];simp) (by omega) h4 ho;have k:=al0 h5 r r';simp only[aW,aN,h1,e,e',h2,aZ];exact⟨by simpa using⟨r.ne,r'.ne,k.1,k.2.1⟩,λhe=>by simp_all⟩
 |ite a b c h1 h2 h3 h4 h5=>
  have e:=iu (q:=q) (i:=0) (a:=a) (by rw[h2];rfl);have e':=iu (q:=q) (i:=1) (a:=b) (by rw[h2];rfl);have IZ:=iu (q:=q) (i:=2) (a:=c) (by rw[h2];rfl);have r:=hA a tB q.on (by rw[h2];simp) (by omega) h3 ho;have r':=hA b _ q.on (by rw[h2];simp) (by omega) h4 ho;have _e:=hA c _ q.on (by rw[h2];simp) (by omega) h5 ho;simp only[aW,aN,h1,e,e',IZ,h2];refine⟨by simpa using r.ne,λ_=>?_⟩;grind
 |Ln a h1 h2 h3 h4=>
  simp_all[aW,aN]
 |HU x v a b h1 h2 h3 h4 h5 h6 h7 h8=>
  have e:=iu (q:=q) (i:=0) (a:=(x,0)) (by rw[h2];rfl);have r:=hA (x,0) tB q.on (by rw[h2];simp) (by omega) (.inr ⟨h3,v,h4,h6,h5⟩) ho;obtain⟨r1,r2⟩:=r.jF;have U:aE env (x,0)=dT env x:=by unfold aE;grind
  have hb:uB f x=true:=by unfold uB;rw[h4];have:=C2 Ty.k h6;simp only[z6,tB]at this;simp[this]
  have Ac:∀n:Int,(aE env (x,0)).getD 0 0=n->bn env (q.on++[(x,n)])=true:=λn hn=>by rw[HW,ho,Pd];simp only[bn,MM,C1,GJ,ir];grind
  have _h:iG f env q=1-(aE env (x,0)).getD 0 0:=by unfold iG;rw[e,gr (show uB f ((x,0):yI).1=true from hb)];unfold aZ;rcases r2 with r2|r2<;>rw[r2]<;>rfl
  have hv:aW f env q↔(aE env (br q 0)≠[]/\q.args.length<=1000/\0<=iG f env q/\iG f env q+1<q.args.length):=by simp[aW,h1]
  have I:aN f m env q=(aE env (br q ((iG f env q).toNat+1)),0):=by simp[aN,h1]
  rw[hv,I];refine⟨⟨by grind,hq.len.2.1,by omega,by grind⟩,λ_=>?_⟩;rw[_h];rcases r2 with r2|r2
  .rw[r2];grind[RI,aE,br,iu,r2]
  grind[r2,RI,aE,br,iu]
 |HV x v la h1 h2 h3 h4 h5 h6 h7 h8=>
  have e:=iu (q:=q) (i:=0) (a:=(x,0)) (by rw[h2];rfl);have r:=hA (x,0) (z6 v) q.on (by rw[h2];simp) (by omega) (.inr ⟨h3,v,h4,rfl,h5⟩) ho;obtain⟨r1,r2,_⟩:=r.one h6.2;have U:aE env (x,0)=dT env x:=by unfold aE;grind
  have hb:uB f x=false:=by unfold uB;grind
  have hn:0<=(aE env (x,0)).getD 0 0/\(aE env (x,0)).getD 0 0<_Z l.enums (z6 v):=by grind[z6,yf,r2,_Z]
  have _h:iG f env q=(aE env (x,0)).getD 0 0:=by unfold iG;rw[e,ba (show¬uB f ((x,0):yI).1=true by rw[hb];simp)];rfl
  have hv:aW f env q↔(aE env (br q 0)≠[]/\q.args.length<=1000/\0<=iG f env q/\iG f env q+1<q.args.length):=by simp[aW,h1]
  have I:aN f m env q=(aE env (br q ((iG f env q).toNat+1)),0):=by simp[aN,h1]
  rw[hv,I,_h];refine⟨⟨by grind,hq.len.2.1,hn.1,by grind⟩,λ_=>?_⟩;generalize hw:(aE env (x,0)).getD 0 0=n at*;have hl:n.toNat<la.length:=by omega
  have ha:la[n.toNat]? =some la[n.toNat]:=tx hl;have ha2:q.args[n.toNat+1]? =some la[n.toNat]:=by simp_all
  rw[iu ha2];refine hA _ _ _ (ed ha2) (by omega) (h8 _ _ ha) ?_;rw[HW,ho,Pd];simp only[bn,MM,C1,GJ,ir];grind
 |arr h1 h2 h3 h4=>
  have r:∀a∈q.args,RI l.enums (F6 (uD f (aw q))) (aE env a):=λa ha=>hA a _ q.on ha (by omega) (h3 a ha) ho;have hv:aW f env q↔(q.args.length<=1000/\∀a∈q.args,aE env a≠[]):=by simp[aW,h1]
  have I:aN f m env q=(q.args.map (aZ env),0):=by simp[aN,h1]
  rw[hv,I];refine⟨⟨hq.len.2.1,λa ha=>(r a ha).ne⟩,λ_=>RI.mk' ht (by rw[aAa ht h4,Pe];exact h2) λn hn=>?_⟩;obtain⟨a,ha,rfl⟩:=It.1 hn;obtain⟨_,k2,k3⟩:=(r a ha).one rfl;exact⟨k2,k3⟩
 |at_ a b u h1 h2 h3 h4 h5 h6=>
  have e:=iu (q:=q) (i:=0) (a:=a) (by rw[h2];rfl);have e':=iu (q:=q) (i:=1) (a:=b) (by rw[h2];rfl);have r:=hA a u q.on (by rw[h2];simp) (by omega) h3 ho;have r':=hA b tI q.on (by rw[h2];simp) (by omega) h5 ho;have hv:aW f env q↔(q.args.length=2/\B4 (aE env (br q 0))/\aE env (br q 1)≠[]):=by simp[aW,h1]
  have I:aN f m env q=(if 0<=aZ env (br q 1)/\aZ env (br q 1)<(aE env (br q 0)).length then([(aE env (br q 0)).getD (aZ env (br q 1)).toNat 0],0)else([],16)):=by simp[aN,h1]
  rw[hv,I,e,e'];refine⟨⟨by rw[h2];rfl,by have:=r.len.2;unfold B4;omega,r'.ne⟩,λhe=>?_⟩;split at he
  .rename_i c;rw[gr c,h6];have hm:(aE env a).getD (aZ env b).toNat 0∈aE env a:=by simp_all
   exact RI.single (az9 r.parts.1) rfl (r.parts.2.2.1 _ hm) (r.2 _ hm)
  .simp at he
 |set a b c h1 h2 h3 h4 h5 h6=>
  have e:=iu (q:=q) (i:=0) (a:=a) (by rw[h2];rfl);have e':=iu (q:=q) (i:=1) (a:=b) (by rw[h2];rfl);have IZ:=iu (q:=q) (i:=2) (a:=c) (by rw[h2];rfl);have r:=hA a _ q.on (by rw[h2];simp) (by omega) h3 ho;have r':=hA b tI q.on (by rw[h2];simp) (by omega) h5 ho;have _e:=hA c _ q.on (by rw[h2];simp) (by omega) h6 ho;have hv:aW f env q↔(q.args.length=3/\B4 (aE env (br q 0))/\aE env (br q 1)≠[]/\aE env (br q 2)≠[]):=by simp[aW,h1]
  have I:aN f m env q=(if 0<=aZ env (br q 1)/\aZ env (br q 1)<(aE env (br q 0)).length then((aE env (br q 0)).set (aZ env (br q 1)).toNat (aZ env (br q 2)),0)else([],16)):=by simp[aN,h1]
  rw[hv,I,e,e',IZ];refine⟨⟨by rw[h2];rfl,by have:=r.len.2;unfold B4;omega,r'.ne,_e.ne⟩,λhe=>?_⟩;split at he
  .rename_i cc;rw[gr cc];obtain⟨_,k2,k3⟩:=_e.one rfl;refine RI.mk' ht (by rw[List.length_set];exact r.parts.2.1) λn hn=>?_;rcases List.mem_or_eq_of_mem_set hn with hn|hn
   .exact⟨r.parts.2.2.1 n hn,r.2 n hn⟩
   .rw[hn];exact⟨k2,k3⟩
  .simp at he
structure lh(l:cT):Prop where
 xP:∀(i:Nat) (f:Fl),l.fs[i]? =some f->tl l i f
 cap:okW l
theorem iE{l:cT}{at_:Int}(h0:0<=at_)(h1:at_<l.fs.length):∃i:Nat,at_=i/\l.fs[i]? =some (ad l at_):=by grind[ad,BY,tx]
theorem lh.names{l}(h:lh l)(at_):nJ (ad l at_):=by
 rcases GK at_.toNat l.fs.length with c|c
 .have:l.fs[at_.toNat]? =some (ad l at_):=by unfold ad;rw[BY,tx c];rfl
  exact(h.xP _ _ this).names
 .have:ad l at_=default:=by unfold ad;rw[BY,XO c];rfl
  rw[this];exact⟨λq hq=>by simp[default]at hq,.nil⟩
theorem wP(l):∀(n:Nat) (at_:Int),(aK l n at_).length=(bh l n at_).length
 |0,_=>rfl
 |n+1,at_=>by simp only[aK,bh,AS,Pe,List.length_flatMap];have:(λq:Pl=>(aK l n q.node).length)=λq=>(bh l n q.node).length:=funext λq=>wP l n q.node;rw[this]
theorem Ae{α β}{f g:α->List β}:∀{l:List α},(∀x∈l,f x=g x)->l.flatMap f=l.flatMap g
 |[],_=>rfl
 |x::l,h=>by rw[Cq,Cq,h x (by simp),Ae λy hy=>h y (by simp[hy])]
theorem ji{at_}{q:Pl}:bt at_ q=true↔q.kind=7/\0<q.names.length/\0<=q.node/\q.node<at_:=by simp[bt]
theorem vg(l):∀(n k:Nat) (at_:Int),at_<n->at_<k->0<=at_->aK l n at_=aK l k at_
 |0,_,_,h,_,h0=>by omega
 |_+1,0,_,_,h,h0=>by omega
 |n+1,k+1,at_,h,h',h0=>by simp only[aK];congr 1;refine Ae λq hq=>?_;obtain⟨_,_,c1,c2⟩:=ji.1 (PC.1 hq).2;rw[vg l n k q.node (by omega) (by omega) c1]
def Fit(l:cT)(at_:Int)(m:List cG):Prop:=mb l.enums (aK l 11 at_) m
theorem aAf{l:cT}(h:lh l):∀(n:Nat) (at_:Int),at_<l.fs.length->0<=at_->∀x∈aK l n at_,x.1.length<=n*1001
 |0,_,_,_,x,U=>by simp[aK]at U
 |n+1,at_,h1,h0,x,U=>by
  obtain⟨i,rfl,hf⟩:=iE h0 h1;have hG:=h.xP i _ hf;have hn:∀q∈(ad l i).eqs,(aw q).length<=1000:=λq hq=>by obtain⟨v,hv,_⟩:=(hG.eq q hq).nm _ (uS (hG.eq q hq).ne);obtain⟨Y,e2⟩:=oV hv;rw[<-e2];exact(hG.var v Y).2.2.2
  rcases u4 U with⟨q,hq,_,rfl⟩|⟨q,hq,hc,y,hy,rfl⟩
  .grind
  .obtain⟨_,_,c1,c2⟩:=ji.1 hc;have:=hn q hq;have:=aAf h n q.node (by omega) c1 y hy;grind[B6,AS,IS,Cd]
theorem Fit.mem{l}(h:lh l){at_}(hv:qt l at_=true){m}(hm:Fit l at_ m):kE m:=by
 obtain⟨h0,h1⟩:=kG hv;refine⟨?_,λc hc=>?_⟩
 .have:=Rb hm;rw[wP]at this;have:=(e1 h.cap hv).2;omega
 .obtain⟨x,U,e,E⟩:=B9 hm c hc;have:=E.len.2;have:=aAf h 11 at_ h1 h0 x U;grind
theorem adP{nH}(h:OG nH):∀{l:List Pl} {q:Pl},q∈l->(Yv nH q).1<=HX nH l
 |[],_,hq=>by simp at hq
 |x::l,q,hq=>by
  have h1:=HY h x;have h2:=xL h l;simp only[HX];rcases NO.1 hq with e|hq
  .rw[e];omega
  .have:=adP h hq;omega
theorem adQ{nH}(h:OG nH):∀{l:List Pl} {q:Pl},q∈l->(Yv nH q).2<=PA nH l
 |[],_,hq=>by simp at hq
 |x::l,q,hq=>by
  have h1:=HY h x;have h2:=xM h l;simp only[PA];rcases NO.1 hq with e|hq
  .rw[e];omega
  .have:=adQ h hq;omega
theorem B8{l}{at_}(hv:qt l at_=true){q:Pl}(hq:q∈(ad l at_).eqs)(hc:bt at_ q=true):qt l q.node=true:=by
 obtain⟨h0,h1⟩:=kG hv;obtain⟨i,rfl⟩:∃i:Nat,at_=i:=⟨at_.toNat,by omega⟩;obtain⟨_,_,c1,c2⟩:=ji.1 hc;obtain⟨k,hk⟩:∃k:Nat,q.node=k:=⟨q.node.toNat,by omega⟩;have e:gD l i=(kZ l (i+1)).getD i (0,0):=by simp_all[gD,gr,GC]
 rw[Nj]at e;have e2:gD l k=(kZ l (k+1)).getD k (0,0):=by rw[hk]at c1 c2;simp only[gD,gr (show(0:Int)<=k/\(k:Int)<l.fs.length by omega),GC]
 have e3:gD l k=Yv (kZ l i) q:=by grind[Yv,TE,GC]
 have hm:=PC.2 ⟨hq,hc⟩;have nT:=AV l i;have s1:=adP nT hm;have s2:=adQ nT hm;have nC:=HY nT q;have p1:=xL nT ((ad l i).eqs.filter (bt i));have p3:1<=(gD l k).2:=by rw[e2,Nj];have aF6:=AV l k;have:=xM aF6 ((ad l k).eqs.filter (bt k));simp only[rowOf];omega
 rw[<-e3]at s1 s2 nC;simp only[qt,e,rowOf,ab,ir,aaa,SO]at hv;rw[hk];simp only[qt,ab,ir,aaa,SO];omega
def yM(en:List En)(d:List Va)(v:Bd):Prop:=v.length=d.length/\∀(j:Nat) (x:Va) (y:Ba),d[j]? =some x->v[j]? =some y->RI en (z6 x) y
theorem tl.eM{l}{i}{f:Fl}(h:tl l i f){v:Va}(hv:v∈f.ins\/v∈f.outs):v∈fu f/\v.on=[]:=by have:=h.io v (pt.2 hv);grind[fu,pt]
theorem aAj{l:cT}(h:lh l):∀(n:Nat) (at_:Int),at_<l.fs.length->0<=at_->mb l.enums (aK l n at_) (bh l n at_)
 |0,_,_,_=>trivial
 |n+1,at_,h1,h0=>by
  obtain⟨i,rfl,hf⟩:=iE h0 h1;have hG:=h.xP i _ hf;have k1:∀r:List Pl,(∀q∈r,q∈(ad l i).eqs/\gF q=true)->mb l.enums (r.map λq=>(aw q,uD (ad l i) (aw q))) (r.map OX):=by
   intro r;induction r with
   |nil=>intro _;trivial
   |cons q r ih=>
    intro E;refine⟨rfl,?_,ih λx U=>E x (by simp[U])⟩;obtain⟨hq,hb⟩:=E q (by simp);simp only[gF,ab,GO]at hb;rcases(hG.eq q hq).body with⟨_,hk⟩|hk
    .cases hk with
     |Ln a _ _ _ h4=>exact h4
     |copy _ _ h|un _ _ h|bin _ _ _ _ h|ite _ _ _ h|HU _ _ _ _ h|HV _ _ _ h|arr h|at_ _ _ _ h|set _ _ _ h=>omega
    .have:=hk.kind;omega
  have k2:∀r:List Pl,(∀q∈r,bt i q=true)->mb l.enums (r.flatMap λq=>(aK l n q.node).map (B6 (aw q++[47]))) (r.flatMap λq=>(bh l n q.node).map (jh (aw q++[47]))):=by
   intro r;induction r with
   |nil=>intro _;trivial
   |cons q r ih=>
    intro E;obtain⟨_,_,c1,c2⟩:=ji.1 (E q (by simp));rw[Cq,Cq];exact Nh (azW _ (aAj h n q.node (by omega) c1)) (ih λx U=>E x (by simp[U]))
  exact Nh (k1 _ λq hq=>⟨(PC.1 hq).1,(PC.1 hq).2⟩) (k2 _ λq hq=>(PC.1 hq).2)
theorem Fit.start{l}(h:lh l){at_}(hv:qt l at_=true):Fit l at_ (aQ l at_):=by obtain⟨h0,h1⟩:=kG hv;simp_all[Fit,aQ,gr,aAj]
theorem Fit.under{l:cT}(h:lh l){at_:Int}(h0:0<=at_)(h1:at_<l.fs.length){m:List cG}(hm:Fit l at_ m){q:Pl}(hq:q∈(ad l at_).eqs)(hc:bt at_ q=true):Fit l q.node (gL m (aw q)):=by have:=alY (h.names at_) hm hq hc;obtain⟨_,_,c1,c2⟩:=ji.1 hc;have hl:=h.cap.1.1;grind[Fit,vg]
theorem Fit.over{l:cT}(h:lh l){at_:Int}(h0:0<=at_)(h1:at_<l.fs.length){m sub:List cG}(hm:Fit l at_ m){q:Pl}(hq:q∈(ad l at_).eqs)(hc:bt at_ q=true)(I:Fit l q.node sub):Fit l at_ (mY m (aw q) sub):=by obtain⟨_,_,c1,c2⟩:=ji.1 hc;have hl:=h.cap.1.1;unfold Fit at I;rw[vg l 11 10 q.node (by omega) (by omega) c1]at I;exact aq3 h.names hm hq I
def vh(f:Fl)(pre:List Pl)(D:BS):Prop:=∀s,s∈D↔s∈f.ins.map (·.name)\/s∈dI pre
def eP(l:cT)(at_:Int)(rec:TA)(ok:OC):Prop:=
 ∀q∈(ad l at_).eqs,bt at_ q=true->∀m' X5,Fit l q.node m'->yM l.enums (ad l q.node).ins X5->
  ok q.node m' X5/\((rec q.node m' X5).2.2=0->yM l.enums (ad l q.node).outs (rec q.node m' X5).1/\Fit l q.node (rec q.node m' X5).2.1)
theorem Ra{l}{i}{f:Fl}(h:tl l i f){q}(hq:q∈f.eqs):(aw q).length<=1000/\tj (aw q):=by obtain⟨v,hv,_⟩:=(h.eq q hq).nm _ (uS (h.eq q hq).ne);obtain⟨Y,e2⟩:=oV hv;rw[<-e2];exact⟨(h.var v Y).2.2.2,(h.var v Y).2.2.1⟩
theorem al1{l:cT}{i}{f}(h:tl l i f){s}{v:Va}(hv:fO f s=some v):bg l.enums (uD f s)=true:=by unfold uD;rw[hv];exact(h.var v (oV hv).1).1
theorem ahe(env)(q:Pl)(h:q.names.length=1)(v):bu q.names [v] env=jR (aw q) v env:=by
 unfold aw;match q.names,h with
 |[s],_=>rfl
theorem ahK{l:cT}(h:lh l){at_:Int}(hv:qt l at_=true){rec:TA}{ok:OC}(xX:eP l at_ rec ok){m:List cG}(hm:Fit l at_ m){pre r:List Pl}{q:Pl}(he:(ad l at_).eqs=pre++q::r){s:Ed}{D:BS}
 (hP:Bs l.enums (ad l at_) s.env D) (hD:vh (ad l at_) pre D) (Bw:Fit l at_ s.th) (ho:bn s.env q.on=true):
 UH l rec ok (ad l at_) m q s/\((B7 l rec (ad l at_) m q s).2=0->Bs l.enums (ad l at_) (B7 l rec (ad l at_) m q s).1.env (q.names++D)/\Fit l at_ (B7 l rec (ad l at_) m q s).1.th):=by
 obtain⟨h0,h1⟩:=kG hv;obtain⟨i,hi,hf⟩:=iE h0 h1;have hG:=h.xP i _ hf;have hq:q∈(ad l at_).eqs:=by rw[he];simp
 have hQ:=hG.eq q hq;have wJ:=Ra hG hq;obtain⟨v0,OD,_⟩:=hQ.nm _ (uS hQ.ne);have hrt:=al1 hG OD;have Z:∀x∈gA q,x∈D:=λx U=>(hD x).2 (by
  have:=hG.ord pre.length q (by rw[he];simp) x U;simp_all)
 have aF7:∀c∈q.on,c.1∈D:=λc hc=>Z _ (uE hc (hQ.on c hc).1);have Ac:=hG.once;rw[he,mZ]at Ac;obtain⟨p1,p2,p3⟩:=Cz.1 Ac;have eT:dI (q::r)=q.names++dI r:=rfl;rw[eT]at p2 p3;obtain⟨p4,p5,p6⟩:=Cz.1 p2;have X4:∀x∈q.names,x∉D:=λx U wO=>by
  rcases(hD x).1 wO with wO|wO
  .obtain⟨d,Kj,Ek⟩:=It.1 wO;exact hG.vI x (pg hq U) d Kj Ek
  grind
 have Mq:=hm.mem h hv;have htm:=Bw.mem h hv;have bP:0<q.names.length:=OT.2 hQ.ne;have xA:=λ(vs:Bd) (hl:vs.length=q.names.length) E=>hP.add hG.uniq (vs:=vs) p4 hl E X4 hQ.nm aF7 ho;rcases hQ.body with⟨hl,hk⟩|hk
 .have h7:q.kind≠7:=by cases hk<;>omega
  obtain⟨g1,g2⟩:=adO (m:=m) hP hQ hrt Z ho (λh5=>auB (h.names at_) hm hq (by simp[gF,h5];omega)) hk;have Y:UH l rec ok (ad l at_) m q s↔(0<q.names.length/\(aw q).length<=1000/\kE m/\kE s.th/\q.names.length=1/\aW (ad l at_) s.env q):=by unfold UH;simp_all
  have e2:B7 l rec (ad l at_) m q s=(⟨jR (aw q) (aN (ad l at_) m s.env q).1 s.env,s.th⟩,(aN (ad l at_) m s.env q).2):=by unfold B7;simp_all
  rw[Y,e2];refine⟨⟨bP,wJ.1,Mq,htm,hl,g1⟩,λhz=>⟨?_,Bw⟩⟩;have:=xA [(aN (ad l at_) m s.env q).1] (by simp[hl]) (λj x v U hv=>by grind[aw,BY])
  rwa[ahe _ _ hl]at this
 .have Jw:bt at_ q=true:=ji.2 ⟨hk.kind,bP,hk.node.1,by have:=hk.node.2;omega⟩;have Ha:=B8 hv hq Jw;have hev:q.reset=true->RI l.enums tB (aE s.env (q.ev,q.en)):=λE=>AU hP (hk.every E) (λhn=>Z _ (aI1 E hn)) ho;have og:Fit l q.node (rL l m s.env q):=by
   unfold rL;split
   .exact Fit.start h Ha
   .exact hm.under h h0 h1 hq Jw
  have FI:yM l.enums (ad l q.node).ins (q.args.map (aE s.env)):=by
   refine⟨by rw[Pe];exact hk.ins,λj x y U hy=>?_⟩;rw[M9]at hy;cases ha:q.args[j]? with
   |none=>simp_all
   |some a=>
    rw[ha]at hy;simp at hy;subst hy;exact AU hP (hk.arg j a x ha U) (λhn=>Z _ (mem_reads (by rw[hk.kind];decide) (ed ha) hn)) ho
  obtain⟨g1,g2⟩:=xX q hq Jw _ _ og FI;have Y:UH l rec ok (ad l at_) m q s↔(0<q.names.length/\(aw q).length<=1000/\kE m/\kE s.th/\q.args.length<=1000/\q.names.length<=1000/\(q.reset=true->aE s.env (q.ev,q.en)≠[]/\qt l q.node=true)/\0<=q.node/\
   ok q.node (rL l m s.env q) (q.args.map (aE s.env))/\
   ((rec q.node (rL l m s.env q) (q.args.map (aE s.env))).2.2=0->(rec q.node (rL l m s.env q) (q.args.map (aE s.env))).1.length=q.names.length/\kE (rec q.node (rL l m s.env q) (q.args.map (aE s.env))).2.1)):=by
   unfold UH;rw[gr hk.kind]
  have e2:B7 l rec (ad l at_) m q s=if(rec q.node (rL l m s.env q) (q.args.map (aE s.env))).2.2=0 then
   (⟨bu q.names (rec q.node (rL l m s.env q) (q.args.map (aE s.env))).1 s.env,mY s.th (aw q) (rec q.node (rL l m s.env q) (q.args.map (aE s.env))).2.1⟩,0)
   else(s,(rec q.node (rL l m s.env q) (q.args.map (aE s.env))).2.2):=by
   unfold B7;rw[gr hk.kind]
  rw[Y,e2];generalize rec q.node (rL l m s.env q) (q.args.map (aE s.env))=An at*;refine⟨⟨bP,wJ.1,Mq,htm,hQ.len.2.1,hQ.len.2.2,λE=>⟨(hev E).ne,Ha⟩,hk.node.1,g1,λhz=>?_⟩,λhz=>?_⟩
  .obtain⟨o1,o2⟩:=g2 hz;exact⟨by rw[o1.1,hk.outs],o2.mem h Ha⟩
  .by_cases KZ:An.2.2=0
   .rw[gr KZ];obtain⟨o1,o2⟩:=g2 KZ;refine⟨xA An.1 (by rw[o1.1,hk.outs]) λj x v U hv=>?_,Bw.over h h0 h1 hq Jw o2⟩;have hj:j<(ad l q.node).outs.length:=by rw[<-hk.outs];grind
    have xo:=tx hj;rw[hk.out j x _ U xo];exact o1.2 j _ v xo hv
   simp_all
theorem vh.next{f}{pre}{q:Pl}{D}(h:vh f pre D):vh f (pre++[q]) (q.names++D):=λs=>by
 have e:dI (pre++[q])=dI pre++q.names:=by rw[mZ];simp[dI]
 rw[pt,h s,e,pt];grind
theorem IW{l:cT}(h:lh l){at_:Int}(hv:qt l at_=true){rec:TA}{ok:OC}(xX:eP l at_ rec ok){m:List cG}(hm:Fit l at_ m):∀(r pre:List Pl) (s:Ed) (D:BS),(ad l at_).eqs=pre++r->
 Bs l.enums (ad l at_) s.env D->vh (ad l at_) pre D->Fit l at_ s.th->
 VM l rec ok (ad l at_) m r s/\((ja l rec (ad l at_) m r s).2=0->(∃D',vh (ad l at_) (ad l at_).eqs D'/\Bs l.enums (ad l at_) (ja l rec (ad l at_) m r s).1.env D')/\Fit l at_ (ja l rec (ad l at_) m r s).1.th)
 |[],pre,s,D,he,hP,hD,Bw=>⟨BB,λ_=>⟨⟨D,by simp_all,hP⟩,Bw⟩⟩
 |q::r,pre,s,D,he,hP,hD,Bw=>by
  obtain⟨h0,h1⟩:=kG hv;obtain⟨i,hi,hf⟩:=iE h0 h1;have hG:=h.xP i _ hf;have hq:q∈(ad l at_).eqs:=by rw[he];simp
  have hQ:=hG.eq q hq;have UI:(ad l at_).eqs=(pre++[q])++r:=by rw[he];simp
  rw[VM,ja];cases ho:bn s.env q.on with
  |true=>
   obtain⟨g1,g2⟩:=ahK h hv xX hm he hP hD Bw ho;simp only[Bp];by_cases hz:(B7 l rec (ad l at_) m q s).2=0
   .rw[gr hz];obtain⟨k1,k2⟩:=g2 hz;obtain⟨n1,n2⟩:=IW h hv xX hm r (pre++[q]) _ _ UI k1 hD.next k2;exact⟨⟨hQ.len.1,g1,λ_=>n1⟩,n2⟩
   .rw[ba hz];exact⟨⟨hQ.len.1,g1,λUJ=>absurd UJ hz⟩,λUJ=>absurd UJ hz⟩
  |false=>
   simp only[AN,Bv];have Z:∀x∈gA q,x∈D:=λx U=>(hD x).2 (by
    have:=hG.ord pre.length q (by rw[he];simp) x U;simp_all)
   have Ac:=hG.once;rw[he,mZ]at Ac;obtain⟨p1,p2,p3⟩:=Cz.1 Ac;have eT:dI (q::r)=q.names++dI r:=rfl;rw[eT]at p2 p3;have X4:∀x∈q.names,x∉D:=λx U wO=>by
    rcases(hD x).1 wO with wO|wO
    .obtain⟨d,Kj,Ek⟩:=It.1 wO;exact hG.vI x (pg hq U) d Kj Ek
    grind
   have:=hP.skip hG.uniq X4 hQ.nm (λc hc=>Z _ (uE hc (hQ.on c hc).1)) ho;obtain⟨n1,n2⟩:=IW h hv xX hm r (pre++[q]) s _ UI this hD.next Bw;exact⟨⟨hQ.len.1,n1⟩,n2⟩
theorem Dp{l:cT}(h:lh l){at_}(hv:qt l at_=true){env}{D}(hD:vh (ad l at_) (ad l at_).eqs D)(hP:Bs l.enums (ad l at_) env D):∀(r:List Pl) (th:List cG),(∀q∈r,q∈(ad l at_).eqs)->Fit l at_ th->
 FV env r th/\Fit l at_ (tU env r th)
 |[],th,_,Bw=>⟨BB,Bw⟩
 |q::r,th,E,Bw=>by
  obtain⟨h0,h1⟩:=kG hv;obtain⟨i,hi,hf⟩:=iE h0 h1;have hG:=h.xP i _ hf;have hq:=E q (by simp);have hQ:=hG.eq q hq;rw[FV,tU];by_cases c:q.kind=5/\bn env q.on=true
  .rw[gr c];have eg:0<q.args.length/\RI l.enums (uD (ad l at_) (aw q)) (aE env (br q 0)):=by
    rcases hQ.body with⟨_,hk⟩|hk
    .cases hk with
     |Ln a Y e2 e3 e4=>
      rw[iu (q:=q) (i:=0) (a:=a) (by rw[e2];rfl)];refine⟨by rw[e2];simp,AU hP e3 (λhn=>?_) c.2⟩;rcases e3 with⟨e,_⟩|⟨_,v,D8,_,_⟩
      .simp_all
      .obtain⟨u1,u2⟩:=oV D8;rw[hD];unfold fu at u1;rcases pt.1 u1 with u1|u1
       .rcases pt.1 u1 with u1|u1
        .grind
        .exact .inr (u2▸hG.Zy v (pt.2 (.inl u1)))
       .exact .inr (u2▸hG.Zy v (pt.2 (.inr u1)))
     |copy _ _ h|un _ _ h|bin _ _ _ _ h|ite _ _ _ h|HU _ _ _ _ h|HV _ _ _ h|arr h|at_ _ _ _ h|set _ _ _ h=>omega
    .have:=hk.kind;omega
   have aF8:=auA (h.names at_) Bw (Ra hG hq).2 eg.2;obtain⟨n1,n2⟩:=Dp h hv hD hP r _ (λx U=>E x (by simp[U])) aF8;refine⟨⟨hQ.len.1,λ_=>⟨OT.2 hQ.ne,eg.1,Bw.mem h hv,?_⟩,n1⟩,n2⟩;have:=eg.2.len.2;unfold B4;omega
  .rw[ba c];obtain⟨n1,n2⟩:=Dp h hv hD hP r th (λx U=>E x (by simp[U])) Bw;exact⟨⟨hQ.len.1,λc'=>absurd c' c,n1⟩,n2⟩
theorem aCj{l}{i}{f:Fl}(hG:tl l i f){D}(hD:vh f f.eqs D){v:Va}(hv:v∈fu f):v.name∈D:=by
 rw[hD];unfold fu at hv;rcases pt.1 hv with u1|u1
 .rcases pt.1 u1 with u1|u1
  .grind
  .exact .inr (hG.Zy v (pt.2 (.inl u1)))
 .exact .inr (hG.Zy v (pt.2 (.inr u1)))
theorem Ly{l:cT}(h:lh l):∀(n:Nat) (at_:Int),at_<n->qt l at_=true->∀m ins,Fit l at_ m->yM l.enums (ad l at_).ins ins->
 oZ l n at_ m ins/\((bK l n at_ m ins).2.2=0->yM l.enums (ad l at_).outs (bK l n at_ m ins).1/\Fit l at_ (bK l n at_ m ins).2.1)/\((bK l n at_ m ins).2.2≠0->(bK l n at_ m ins).1=[]/\(bK l n at_ m ins).2.1=m)
 |0,at_,hn,hv,_,_,_,_=>by have:=(kG hv).1;omega
 |n+1,at_,hn,hv,m,ins,hm,FI=>by
  obtain⟨h0,h1⟩:=kG hv;obtain⟨i,hi,hf⟩:=iE h0 h1;have hG:=h.xP i _ hf;have xX:eP l at_ (bK l n) (oZ l n):=λq hq hc m' X5 wO Lx=>by have Ha:=B8 hv hq hc;obtain⟨_,_,c1,c2⟩:=ji.1 hc;obtain⟨g1,g2,_⟩:=Ly h n q.node (by omega) Ha m' X5 wO Lx;exact⟨g1,g2⟩
  have _i:Bs l.enums (ad l at_) ([]:aP) []:=⟨λv _ Z=>by simp at Z,λv _ Z=>by simp at Z,λv _ _=>rfl,λs I=>by simp at I,λv _ Z=>by simp at Z⟩;have hPi:Bs l.enums (ad l at_) (yN (ad l at_) m ins).env ((ad l at_).ins.map (·.name)++[]):=by
   have UK:∀v∈(ad l at_).ins,v∈fu (ad l at_):=λv D8=>(hG.eM (.inl D8)).1;refine _i.add hG.uniq ?_ (by rw[Pe];exact FI.1) (λj s v I D8=>?_) (λs _=>by simp) (λs I=>?_) (on:=[]) (λc hc=>by simp at hc) rfl
   .have hu:=hG.uniq;unfold fu at hu;rw[AT]at hu;exact MH.2 (Cz.1 hu).1
   .rw[M9]at I;cases Z:(ad l at_).ins[j]? with
    |none=>rw[Z]at I;simp at I
    |some d=>
     rw[Z]at I;simp at I;subst I;have e:uD (ad l at_) d.name=z6 d:=by unfold uD;rw[hG.fO (UK d (ed Z))];rfl
     rw[e];exact FI.2 j d v Z D8
   .obtain⟨d,Z,rfl⟩:=It.1 I;exact⟨d,hG.fO (UK d Z),(hG.eM (.inl Z)).2⟩
  have vK:vh (ad l at_) [] ((ad l at_).ins.map (·.name)++[]):=λs=>by simp[dI]
  obtain⟨g1,g2⟩:=IW h hv xX hm (ad l at_).eqs [] (yN (ad l at_) m ins) _ rfl hPi vK hm;have Hb:(ad l at_).ins.length=ins.length:=FI.1.symm;have lP:=hG.sz;rw[oZ,bK];unfold ai5 _Y;generalize ja l (bK l n) (ad l at_) m (ad l at_).eqs (yN (ad l at_) m ins)=An at*;by_cases hz:An.2=0
  .obtain⟨⟨D,hD,hP⟩,Bw⟩:=g2 hz;obtain⟨k1,k2⟩:=Dp h hv hD hP (ad l at_).eqs An.1.th (λq hq=>hq) Bw;have Lb:∀d∈(ad l at_).outs,RI l.enums (z6 d) (dT An.1.env d.name):=λd Z=>by obtain⟨Y,e2⟩:=hG.eM (.inr Z);obtain⟨x,U,E⟩:=hP.there d Y (aCj hG hD Y) (by rw[e2];rfl);unfold dT;rw[U];exact E
   rw[gr hz];refine⟨⟨h0,h1,Hb,by omega,lP.2.2,lP.2.1,g1,λ_=>⟨k1,λd Z=>?_⟩⟩,λ_=>⟨⟨by simp,λj x y U hy=>?_⟩,k2⟩,λhn=>absurd rfl hn⟩
   .have:=(Lb d Z).len.2;unfold B4;omega
   .simp only[M9,U,Ka,GB]at hy;subst hy;exact Lb x (ed U)
  .rw[ba hz];exact⟨⟨h0,h1,Hb,by omega,lP.2.2,lP.2.1,g1,λUJ=>absurd UJ hz⟩,λUJ=>absurd UJ hz,λ_=>⟨rfl,rfl⟩⟩
end Go.Proofs.YtldnkkkooabaeaaGreat

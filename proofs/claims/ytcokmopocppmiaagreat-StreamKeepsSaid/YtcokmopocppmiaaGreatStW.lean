/- Instants: what equations tell; when nothing goes wrong. -/
import Derived.Test.YtcokmopocppmiaaGreatStB
import Derived.Test.YtcokmopocppmiaaGreatMsF
set_option linter.all false
set_option maxRecDepth 20000
namespace Go.Proofs.YtcokmopocppmiaaGreat
open Go.Nk
abbrev kc:=List (List UInt8×List Int)
def ow(k:List UInt8):kc->Option (List Int)
 |[]=>none
 |e::r=>if k=e.1 then some e.2 else ow k r
def zM(k:List UInt8)(v:List Int):kc->kc
 |[]=>[(k,v)]
 |e::r=>if k=e.1 then(k,v)::r else e::zM k v r
def lQ(x:List UInt8×List Int):List UInt8×DV:=(x.1,.sl (cX x.2))
theorem Su(k):∀env:kc,Au k (env.map lQ)=(ow k env).map λv=> .sl (cX v)
 |[]=>rfl
 |e::r=>by
  simp only[List.map_cons,Au,ow,lQ];split
  ·rfl
  ·exact Su k r
theorem xl(k)(v):∀env:kc,FQ k (.sl (cX v)) (env.map lQ)=(zM k v env).map lQ
 |[]=>rfl
 |e::r=>by
  simp only[List.map_cons,FQ,zM,lQ];split
  ·rfl
  ·exact congrArg _ (xl k v r)
theorem F6(k j)(v):∀env:kc,ow j (zM k v env)=if j=k then some v else ow j env
 |[]=>by simp only[zM,ow]
 |e::r=>by
  simp only[zM];split
  ·rename_i h;simp only[ow];by_cases c:j=k
   ·rw[if_pos c,if_pos c]
   ·rw[if_neg c,if_neg c,<-h,if_neg c]
  ·rename_i h;simp only[ow,F6 k j v r];by_cases c:j=e.1
   ·rw[if_pos c,if_neg (λq=>h (q.symm.trans c)),if_pos c]
   ·rw[if_neg c,if_neg c]
def lP(env:kc)(s:List UInt8):List Int:=(ow s env).getD []
def aG(env:kc)(a:xx):List Int:=if a.1=[]then [a.2]else lP env a.1
def aP(env:kc)(a:xx):Int:=(aG env a).getD 0 0
def bK(env:kc)(on:List dY):Bool:=on.all λc=>decide (lP env c.1=[c.2])
def bg(q:Pl)(i:Nat):xx:=q.args.getD i ([],0)
def eQ(f:Fl):List Va:=f.ins++f.outs++f.vars
def fp(f:Fl)(s:List UInt8):Option Va:=(eQ f).find? λv=>v.name==s
def vaZ:Va:=⟨[],0,0,0,[]⟩
def sG(f:Fl)(s:List UInt8):Bool:=((fp f s).getD vaZ).k==2
def gZ(f:Fl)(env:kc)(q:Pl):Int:=if sG f (bg q 0).1 then IntKind.i64.wrap (1-aP env (bg q 0))else aP env (bg q 0)
def aM(f:Fl)(m:List cW)(env:kc)(q:Pl):List Int×Int:=
 if q.kind=2 then([(Sq q.op (aP env (bg q 0))).1],(Sq q.op (aP env (bg q 0))).2)
 else if q.kind=3 then([(As q.op (aP env (bg q 0)) (aP env (bg q 1))).1],(As q.op (aP env (bg q 0)) (aP env (bg q 1))).2)
 else if q.kind=4 then(if aP env (bg q 0)≠0 then aG env (bg q 1)else aG env (bg q 2),0)
 else if q.kind=5 then(zL m (aD q),0)
 else if q.kind=6 then(aG env (bg q ((gZ f env q).toNat+1)),0)
 else if q.kind=8 then(q.args.map (aP env),0)
 else if q.kind=9\/q.kind=10 then
  (if 0<=aP env (bg q 1)/\aP env (bg q 1)<(aG env (bg q 0)).length then
   (if q.kind=9 then [(aG env (bg q 0)).getD (aP env (bg q 1)).toNat 0]else(aG env (bg q 0)).set (aP env (bg q 1)).toNat (aP env (bg q 2)),0)
  else([],16))
 else(aG env (bg q 0),0)
structure Ss where
 env:kc
 th:List cW
abbrev QJ:=Int->List cW->List (List Int)->List (List Int)×List cW×Int
def oM(l:jw)(m:List cW)(env:kc)(q:Pl):List cW:=
 if q.reset/\aP env (q.ev,q.en)≠0 then b7 l q.node else fu m (aD q)
def dQ:List (List UInt8)->List (List Int)->kc->kc
 |s::r,v::w,env=>dQ r w (zM s v env)
 |_,_,env=>env
def yq(l:jw)(rec:QJ)(f:Fl)(m:List cW)(q:Pl)(s:Ss):Ss×Int:=
 if q.kind=7 then
  if(rec q.node (oM l m s.env q) (q.args.map (aG s.env))).2.2=0 then
   (⟨dQ q.names (rec q.node (oM l m s.env q) (q.args.map (aG s.env))).1 s.env,iD s.th (aD q) (rec q.node (oM l m s.env q) (q.args.map (aG s.env))).2.1⟩,0)
  else(s,(rec q.node (oM l m s.env q) (q.args.map (aG s.env))).2.2)
 else(⟨zM (aD q) (aM f m s.env q).1 s.env,s.th⟩,(aM f m s.env q).2)
def fU(l:jw)(rec:QJ)(f:Fl)(m:List cW):List Pl->Ss->Ss×Int
 |[],s=>(s,0)
 |q::r,s=>if bK s.env q.on then(if(yq l rec f m q s).2=0 then fU l rec f m r (yq l rec f m q s).1 else yq l rec f m q s)else fU l rec f m r s
def kQ(env:kc):List Pl->List cW->List cW
 |[],th=>th
 |q::r,th=>kQ env r (if q.kind=5/\bK env q.on then xm th (aD q) (aG env (bg q 0))else th)
def rQ(f:Fl)(m:List cW)(ins:List (List Int)):Ss:=⟨dQ (f.ins.map (·.name)) ins [],m⟩
def aqA(l:jw)(rec:QJ):QJ:=λat_ m ins=>
 if(fU l rec (ad l at_) m (ad l at_).eqs (rQ (ad l at_) m ins)).2=0 then
  ((ad l at_).outs.map λd=>lP (fU l rec (ad l at_) m (ad l at_).eqs (rQ (ad l at_) m ins)).1.env d.name,
    kQ (fU l rec (ad l at_) m (ad l at_).eqs (rQ (ad l at_) m ins)).1.env (ad l at_).eqs (fU l rec (ad l at_) m (ad l at_).eqs (rQ (ad l at_) m ins)).1.th,0)
 else([],m,(fU l rec (ad l at_) m (ad l at_).eqs (rQ (ad l at_) m ins)).2)
def aZ(l:jw):Nat->QJ
 |0=>λ_ m _=>([],m,0)
 |n+1=>aqA l (aZ l n)
abbrev Ok3:=Int->List cW->List (List Int)->Prop
def DN(v:List Int):Prop:=v.length<=1000
def aU(f:Fl)(env:kc)(q:Pl):Prop:=
 if q.kind=2 then q.args.length=1/\aG env (bg q 0)≠[]
 else if q.kind=3 then q.args.length=2/\aG env (bg q 0)≠[]/\aG env (bg q 1)≠[]/\gD (aP env (bg q 0))/\gD (aP env (bg q 1))
 else if q.kind=4 then q.args.length=3/\aG env (bg q 0)≠[]
 else if q.kind=5 then True
 else if q.kind=6 then aG env (bg q 0)≠[]/\q.args.length<=1000/\0<=gZ f env q/\gZ f env q+1<q.args.length
 else if q.kind=8 then q.args.length<=1000/\∀a∈q.args,aG env a≠[]
 else if q.kind=9 then q.args.length=2/\DN (aG env (bg q 0))/\aG env (bg q 1)≠[]
 else if q.kind=10 then q.args.length=3/\DN (aG env (bg q 0))/\aG env (bg q 1)≠[]/\aG env (bg q 2)≠[]
 else 0<q.args.length
def mD(m:List cW):Prop:=m.length<=1000/\∀c∈m,c.dL.length<=1000/\c.path.length<=1000000
def RB(l:jw)(rec:QJ)(ok:Ok3)(f:Fl)(m:List cW)(q:Pl)(s:Ss):Prop:=
 0<q.names.length/\(aD q).length<=1000/\mD m/\mD s.th/\
 if q.kind=7 then q.args.length<=1000/\q.names.length<=1000/\(q.reset=true->aG s.env (q.ev,q.en)≠[]/\rH l q.node=true)/\0<=q.node/\
  ok q.node (oM l m s.env q) (q.args.map (aG s.env))/\
  ((rec q.node (oM l m s.env q) (q.args.map (aG s.env))).2.2=0->(rec q.node (oM l m s.env q) (q.args.map (aG s.env))).1.length=q.names.length/\mD (rec q.node (oM l m s.env q) (q.args.map (aG s.env))).2.1)
 else q.names.length=1/\aU f s.env q
def Oa(l:jw)(rec:QJ)(ok:Ok3)(f:Fl)(m:List cW):List Pl->Ss->Prop
 |[],_=>True
 |q::r,s=>q.on.length<=1000/\if bK s.env q.on then RB l rec ok f m q s/\((yq l rec f m q s).2=0->Oa l rec ok f m r (yq l rec f m q s).1)else Oa l rec ok f m r s
def wC(env:kc):List Pl->List cW->Prop
 |[],_=>True
 |q::r,th=>q.on.length<=1000/\(q.kind=5/\bK env q.on=true->0<q.names.length/\0<q.args.length/\mD th/\DN (aG env (bg q 0)))/\
   wC env r (if q.kind=5/\bK env q.on then xm th (aD q) (aG env (bg q 0))else th)
def afn(l:jw)(rec:QJ)(ok:Ok3):Ok3:=λat_ m ins=>
 0<=at_/\at_<l.fs.length/\(ad l at_).ins.length=ins.length/\ins.length<=1000/\(ad l at_).eqs.length<=100000/\(ad l at_).outs.length<=1000/\
 Oa l rec ok (ad l at_) m (ad l at_).eqs (rQ (ad l at_) m ins)/\
 ((fU l rec (ad l at_) m (ad l at_).eqs (rQ (ad l at_) m ins)).2=0->
   wC (fU l rec (ad l at_) m (ad l at_).eqs (rQ (ad l at_) m ins)).1.env (ad l at_).eqs (fU l rec (ad l at_) m (ad l at_).eqs (rQ (ad l at_) m ins)).1.th/\
   ∀d∈(ad l at_).outs,DN (lP (fU l rec (ad l at_) m (ad l at_).eqs (rQ (ad l at_) m ins)).1.env d.name))
def jX(l:jw):Nat->Ok3
 |0=>λ_ _ _=>False
 |n+1=>afn l (aZ l n) (jX l n)
def RI(en:List En)(t:Ty)(x:List Int):Prop:=lM en t x=true/\∀n∈x,gD n
theorem RI.parts{en}{t}{x:List Int}(h:RI en t x):bq en t=true/\(x.length:Int)=fS t/\(∀n∈x,wP en t n=true)/\∀n∈x,gD n:=by obtain⟨h1,h2⟩:=h;simp only[lM,Bool.and_eq_true,beq_iff_eq,List.all_eq_true,Be]at h1;exact⟨h1.1.1,h1.1.2,λn hn=>(h1.2 n hn).2,h2⟩
theorem RI.mk'{en}{t}{x:List Int}(h1:bq en t=true)(h2:(x.length:Int)=fS t)(h3:∀n∈x,wP en t n=true/\gD n):RI en t x:=by refine⟨?_,λn hn=>(h3 n hn).2⟩;simp only[lM,Bool.and_eq_true,beq_iff_eq,List.all_eq_true,Be];exact⟨⟨h1,h2⟩,λn hn=>⟨h1,(h3 n hn).1⟩⟩
theorem RI.len{en}{t}{x:List Int}(h:RI en t x):1<=x.length/\x.length<=8:=by have:=h.parts.2.1;have:=Kl t;omega
theorem RI.ne{en}{t}{x}(h:RI en t x):x≠[]:=by intro e;have:=h.len.1;rw[e]at this;simp at this
theorem RI.one{en}{t:Ty}{x:List Int}(h:RI en t x)(ht:t.n=0):x=[x.getD 0 0]/\wP en t (x.getD 0 0)=true/\gD (x.getD 0 0):=by
 obtain⟨h1,h2,h3,h4⟩:=h.parts;have hc:fS t=1:=by simp[fS,ht]
 rw[hc]at h2;match x,h2,h3,h4 with
 |[n],_,h3,h4=>exact⟨rfl,h3 n (by simp),h4 n (by simp)⟩
theorem RI.single{en}{t:Ty}{n}(h1:bq en t=true)(ht:t.n=0)(h2:wP en t n=true)(h3:gD n):RI en t [n]:=
 RI.mk' h1 (by simp[fS,ht]) (λm hm=>by simp at hm;subst hm;exact⟨h2,h3⟩)
def z3(v:Va):Ty:=⟨v.k,v.e,v.l⟩
def uQ(f:Fl)(s:List UInt8):Ty:=z3 ((fp f s).getD vaZ)
abbrev Shape:=List (List UInt8×Ty)
def Mm(p:List UInt8)(x:List UInt8×Ty):List UInt8×Ty:=(p++x.1,x.2)
def eo(l:jw):Nat->Int->Shape
 |0,_=>[]
 |n+1,at_=>((ad l at_).eqs.filter gY).map (λq=>(aD q,uQ (ad l at_) (aD q)))++
   ((ad l at_).eqs.filter (bk at_)).flatMap λq=>(eo l n q.node).map (Mm (aD q++[47]))
def lC(en:List En):Shape->List cW->Prop
 |[],[]=>True
 |x::s,c::m=>c.path=x.1/\RI en x.2 c.dL/\lC en s m
 |_,_=>False
theorem NF{en}:∀{s:Shape} {m:List cW},lC en s m->s.length=m.length
 |[],[],_=>rfl
 |x::s,c::m,h=>by simp[NF h.2.2]
 |[],_::_,h=>h.elim
 |_::_,[],h=>h.elim
theorem Ad{en}:∀{s:Shape} {m:List cW},lC en s m->∀c∈m,∃x∈s,c.path=x.1/\RI en x.2 c.dL
 |[],[],_,c,hc=>by simp at hc
 |x::s,d::m,h,c,hc=>by
  rcases List.mem_cons.1 hc with rfl|hc
  ·exact⟨x,by simp,h.1,h.2.1⟩
  ·obtain⟨y,hy,e⟩:=Ad h.2.2 c hc;exact⟨y,by simp[hy],e⟩
 |[],_::_,h,_,_=>h.elim
 |_::_,[],h,_,_=>h.elim
theorem QK{en}:∀{s t:Shape} {m:List cW},lC en (s++t) m->∃a b,m=a++b/\lC en s a/\lC en t b
 |[],t,m,h=>⟨[],m,rfl,trivial,h⟩
 |x::s,t,c::m,h=>by obtain⟨a,b,e,h1,h2⟩:=QK (s:=s) (t:=t) h.2.2;exact⟨c::a,b,by rw[e];rfl,⟨h.1,h.2.1,h1⟩,h2⟩
 |_::_,_,[],h=>h.elim
theorem K2{en}:∀{s t:Shape} {a b:List cW},lC en s a->lC en t b->lC en (s++t) (a++b)
 |[],t,[],b,_,h=>h
 |x::s,t,c::a,b,h,k=>⟨h.1,h.2.1,K2 h.2.2 k⟩
 |[],_,_::_,_,h,_=>h.elim
 |_::_,_,[],_,h,_=>h.elim
theorem aak{en}(p):∀{s:Shape} {m:List cW},lC en (s.map (Mm p)) m->∃m',m=m'.map (iT p)/\lC en s m'
 |[],[],_=>⟨[],rfl,trivial⟩
 |x::s,c::m,h=>by obtain⟨m',e,k⟩:=aak p (s:=s) h.2.2;refine⟨⟨x.1,c.dL⟩::m',?_,rfl,h.2.1,k⟩;rw[List.map_cons,<-e];congr 1;obtain⟨cp,cv⟩:=c;have:=h.1;simp only[Mm]at this;simp[iT,this]
 |[],_::_,h=>h.elim
 |_::_,[],h=>h.elim
theorem TR{en}(p):∀{s:Shape} {m:List cW},lC en s m->lC en (s.map (Mm p)) (m.map (iT p))
 |[],[],_=>trivial
 |x::s,c::m,h=>⟨by simp[Mm,iT,h.1],h.2.1,TR p h.2.2⟩
 |[],_::_,h=>h.elim
 |_::_,[],h=>h.elim
theorem K3{en:List En}(g:cW->List Int):∀{s:Shape} {m:List cW},lC en s m->(∀x∈s,∀c∈m,c.path=x.1->RI en x.2 c.dL->RI en x.2 (g c))->lC en s (m.map λc=>⟨c.path,g c⟩)
 |[],[],_,_=>trivial
 |x::s,c::m,h,k=>⟨h.1,k x (by simp) c (by simp) h.1 h.2.1,K3 g h.2.2 λy hy d hd=>k y (by simp[hy]) d (by simp[hd])⟩
 |[],_::_,h,_=>h.elim
 |_::_,[],h,_=>h.elim
theorem QL{en}{t}(p):∀{s:Shape} {m:List cW},lC en s m->(∀x∈s,x.1=p->x.2=t)->(∃x∈s,x.1=p)->∃v,rC m p=some v/\RI en t v
 |[],_,_,_,h=>by obtain⟨x,hx,_⟩:=h;simp at hx
 |x::s,c::m,h,k,e=>by
  by_cases q:c.path=p
  ·exact⟨c.dL,by rw[rC,if_pos q],by rw[<-k x (by simp) (h.1.symm.trans q)];exact h.2.1⟩
  ·rw[rC,if_neg q];refine QL p h.2.2 (λy hy=>k y (by simp[hy])) ?_;obtain⟨y,hy,e⟩:=e;rcases List.mem_cons.1 hy with rfl|hy
   ·exact absurd (h.1.trans e) q
   ·exact⟨y,hy,e⟩
 |_::_,[],h,_,_=>h.elim
def tw(s:List UInt8):Prop:=(47:UInt8)∉s
theorem K4{a b r s}(ha:tw a)(hb:tw b)(h:a++[47]++r=b++[47]++s):a=b/\r=s:=by
 induction a generalizing b with
 |nil=>
  cases b with
  |nil=>simpa using h
  |cons x b=>simp at h;exact absurd (by simp[<-h.1]) hb
 |cons x a ih=>
  cases b with
  |nil=>simp at h;exact absurd (by simp[h.1]) ha
  |cons y b=>
   simp only[List.cons_append,List.cons.injEq]at h;obtain⟨h1,h2⟩:=ih (λhm=>ha (List.mem_cons_of_mem _ hm)) (λhm=>hb (List.mem_cons_of_mem _ hm)) (by simpa using h.2);exact⟨by rw[h.1,h1],h2⟩
theorem K5{a b r}(ha:tw a):a≠b++[47]++r:=λe=>ha (by rw[e];simp)
theorem aml(n r):sV (n++[47]++r) (under n)=true:=by
 rw[IA];have e:(under n).length=(n++[47]).length:=by simp[under]
 rw[e,List.take_left];rfl
theorem QM{s n:List UInt8}(h:sV s (under n)=true):s=n++[47]++s.drop (n.length+1):=by rw[IA]at h;have:=List.take_append_drop (under n).length s;rw[h]at this;simpa[under]using this.symm
theorem adv(n)(c):qy n (iT (n++[47]) c)=[c]:=by
 have h:sV (iT (n++[47]) c).path (under n)=true:=aml n c.path;have e:(iT (n++[47]) c).path.drop (n.length+1)=c.path:=by
  have:(n++[47]).length=n.length+1:=by simp
  rw[<-this];exact List.drop_left
 unfold qy;rw[if_pos h,e];rfl
theorem TS{n p}{c}(hn:tw n)(hp:tw p)(h:n≠p)(r)(e:c=iT (p++[47]) r):qy n c=[]:=by
 unfold qy;cases q:sV c.path (under n)with
 |false=>rfl
 |true=>
  have:=QM q;rw[e]at this;exact absurd (K4 hp hn this).1.symm h
theorem adw{n}{c:cW}(h:tw c.path):qy n c=[]:=by
 unfold qy;cases q:sV c.path (under n)with
 |false=>rfl
 |true=>exact absurd (QM q) (K5 h)
theorem sW{α β}{f:α->List β}:∀{l:List α},(∀x∈l,f x=[])->l.flatMap f=[]
 |[],_=>rfl
 |x::l,h=>by rw[List.flatMap_cons,h x (by simp),sW λy hy=>h y (by simp[hy])];rfl
theorem TT(n):∀m:List cW,fu (m.map (iT (n++[47]))) n=m
 |[]=>rfl
 |c::m=>by have:=TT n m;unfold fu at this|-;rw[List.map_cons,List.flatMap_cons,adv,this];rfl
theorem TU(a b)(n):fu (a++b) n=fu a n++fu b n:=by unfold fu;rw[List.flatMap_append]
structure sX(f:Fl):Prop where
 bar:∀q∈f.eqs,tw (aD q)
 one:f.eqs.Pairwise λa b=>aD a≠aD b
theorem sX.uniq{f:Fl}(h:sX f){a b}(ha:a∈f.eqs)(hb:b∈f.eqs)(e:aD a=aD b):a=b:=by
 have key:∀l:List Pl,l.Pairwise (λa b=>aD a≠aD b)->a∈l->b∈l->a=b:=by
  intro l;induction l with
  |nil=>intro _ h;simp at h
  |cons x l ih=>
   intro hp ha hb;obtain⟨h1,h2⟩:=List.pairwise_cons.1 hp;rcases List.mem_cons.1 ha with ea|ha<;>rcases List.mem_cons.1 hb with eb|hb
   ·rw[ea,eb]
   ·exact absurd (ea▸e) (h1 _ hb)
   ·exact absurd (eb▸e.symm) (h1 _ ha)
   ·exact ih h2 ha hb
 exact key _ h.one ha hb
theorem ahL{l:jw}{n:Nat}{at_:Int}{m:List cW}{en:List En}(h:lC en (eo l (n+1) at_) m):
 ∃a b,m=a++b/\lC en (((ad l at_).eqs.filter gY).map (λq=>(aD q,uQ (ad l at_) (aD q)))) a/\
  lC en (((ad l at_).eqs.filter (bk at_)).flatMap λq=>(eo l n q.node).map (Mm (aD q++[47]))) b:=QK h
theorem aal{en:List En}{S:Pl->Shape}{q:Pl}:∀{l:List Pl} {b:List cW},lC en (l.flatMap λq=>(S q).map (Mm (aD q++[47]))) b->(∀x∈l,tw (aD x))->
 l.Pairwise (λa b=>aD a≠aD b)->q∈l->lC en (S q) (fu b (aD q))
 |[],_,_,_,_,h=>by simp at h
 |x::l,b,h,hb,hp,hq=>by
  rw[List.flatMap_cons]at h;obtain⟨b1,b2,e,h1,h2⟩:=QK h;obtain⟨m1,e1,k1⟩:=aak _ h1;obtain⟨p1,p2⟩:=List.pairwise_cons.1 hp;rw[e,TU];rcases List.mem_cons.1 hq with rfl|hq
  ·rw[e1,TT];have:fu b2 (aD q)=[]:=by
    refine sW λc hc=> ?_;obtain⟨y,hy,N1,_⟩:=Ad h2 c hc;obtain⟨z,hz,JM⟩:=List.mem_flatMap.1 hy;obtain⟨w,hw,rfl⟩:=List.mem_map.1 JM;exact TS (hb q (by simp)) (hb z (by simp[hz])) (p1 z hz) ⟨w.1,c.dL⟩ (by
     obtain⟨cp,cv⟩:=c;simp only[Mm]at N1;simp[iT,N1])
   rw[this,List.append_nil];exact k1
  ·have:fu b1 (aD q)=[]:=by refine sW λc hc=> ?_;rw[e1]at hc;obtain⟨w,_,rfl⟩:=List.mem_map.1 hc;exact TS (hb q (by simp[hq])) (hb x (by simp)) (λh=>p1 q hq h.symm) w rfl
   rw[this,List.nil_append];exact aal h2 (λy hy=>hb y (by simp[hy])) p2 hq
theorem ahM{l:jw}{n:Nat}{at_:Int}{m:List cW}{en:List En}(hN:sX (ad l at_))(h:lC en (eo l (n+1) at_) m){q:Pl}(hq:q∈(ad l at_).eqs)(hc:bk at_ q=true):
 lC en (eo l n q.node) (fu m (aD q)):=by
 obtain⟨a,b,rfl,h1,h2⟩:=ahL h;rw[TU];have:fu a (aD q)=[]:=by refine sW λc hc=> ?_;obtain⟨y,hy,N1,_⟩:=Ad h1 c hc;obtain⟨z,hz,rfl⟩:=List.mem_map.1 hy;exact adw (by rw[N1];exact hN.bar z (List.mem_filter.1 hz).1)
 rw[this,List.nil_append];exact aal (S:=λq=>eo l n q.node) h2 (λx hx=>hN.bar x (List.mem_filter.1 hx).1) (hN.one.filter _) (List.mem_filter.2 ⟨hq,hc⟩)
theorem tp{l}{n}{at_}{x}(h:x∈eo l (n+1) at_):
 (∃q∈(ad l at_).eqs,gY q=true/\x=(aD q,uQ (ad l at_) (aD q)))\/∃q∈(ad l at_).eqs,bk at_ q=true/\∃y∈eo l n q.node,x=Mm (aD q++[47]) y:=by
 rcases List.mem_append.1 h with h|h
 ·obtain⟨q,hq,rfl⟩:=List.mem_map.1 h;exact .inl ⟨q,(List.mem_filter.1 hq).1,(List.mem_filter.1 hq).2,rfl⟩
 ·obtain⟨q,hq,Ev⟩:=List.mem_flatMap.1 h;obtain⟨y,hy,rfl⟩:=List.mem_map.1 Ev;exact .inr ⟨q,(List.mem_filter.1 hq).1,(List.mem_filter.1 hq).2,y,hy,rfl⟩
theorem TV{l}(hN:∀at_:Int,sX (ad l at_)):∀(n:Nat) (at_:Int) (x y:List UInt8×Ty),x∈eo l n at_->y∈eo l n at_->x.1=y.1->x.2=y.2
 |0,_,_,_,h,_,_=>by simp[eo]at h
 |n+1,at_,x,y,hx,hy,e=>by
  have hb:=(hN at_).bar;rcases tp hx with⟨q,hq,_,rfl⟩|⟨q,hq,_,x',re,rfl⟩<;>rcases tp hy with⟨r,hr,_,rfl⟩|⟨r,hr,_,y',hy',rfl⟩
  ·simp only at e|-;rw[e]
  ·exact absurd e (K5 (hb q hq))
  ·exact absurd e.symm (K5 (hb r hr))
  ·obtain⟨e1,e2⟩:=K4 (hb q hq) (hb r hr) e;have:=(hN at_).uniq hq hr e1;subst this;exact TV hN n q.node x' y' re hy' e2
theorem apo{l:jw}{n:Nat}{at_:Int}{m:List cW}{en:List En}(hN:sX (ad l at_))(h:lC en (eo l (n+1) at_) m){s:List UInt8}(hs:tw s){v:List Int}(hv:RI en (uQ (ad l at_) s) v):
 lC en (eo l (n+1) at_) (xm m s v):=by
 unfold xm turn;refine K3 _ h λx hx c hc e hr=> ?_;simp only[Wk,F4];split
 ·rename_i ec;rcases tp hx with⟨q,hq,_,rfl⟩|⟨q,hq,_,x',re,rfl⟩
  ·simp only at e|-;rw[<-e,ec];exact hv
  ·exact absurd (ec.symm.trans e) (K5 hs)
 ·exact hr
theorem amm{l:jw}{n:Nat}{at_:Int}{m sub:List cW}{en:List En}(hN:∀at_:Int,sX (ad l at_))(h:lC en (eo l (n+1) at_) m){q:Pl}(hq:q∈(ad l at_).eqs)
 (j9:lC en (eo l n q.node) sub):lC en (eo l (n+1) at_) (iD m (aD q) sub):=by
 unfold iD turn;refine K3 _ h λx hx c hc e hr=> ?_;simp only[Wk,BD];split
 ·rename_i hp;simp only[Bool.and_eq_true]at hp;have ec:=QM hp.1;have ak9:Qu c.path (under (aD q))=c.path.drop ((aD q).length+1):=by unfold Qu;rw[hp.1,if_pos rfl];simp[under]
  rw[ak9]at hp|-;rcases tp hx with⟨r,qB,_,rfl⟩|⟨r,qB,hrc,x',re,rfl⟩
  ·exact absurd (e.symm.trans ec) (K5 ((hN at_).bar r qB))
  ·have e2:=e.symm.trans ec;obtain⟨e3,e4⟩:=K4 ((hN at_).bar r qB) ((hN at_).bar q hq) e2;have:=(hN at_).uniq qB hq e3;subst this;obtain⟨v,hv,IW⟩:=QL (t:=x'.2) (c.path.drop ((aD r).length+1)) j9 (λy hy e5=>TV hN n r.node y x' hy re (e5.trans e4.symm)) ⟨x',re,e4⟩;unfold zL;rw[hv];exact IW
 ·exact hr
theorem apq{l}{n}{at_}{m}{en}(hN:sX (ad l at_))(h:lC en (eo l (n+1) at_) m){q}(hq:q∈(ad l at_).eqs)(hf:gY q=true):
 RI en (uQ (ad l at_) (aD q)) (zL m (aD q)):=by
 obtain⟨v,hv,hr⟩:=QL (t:=uQ (ad l at_) (aD q)) (aD q) h (λx hx e=>by
  rcases tp hx with⟨r,hr,_,rfl⟩|⟨r,hr,_,x',re,rfl⟩
  ·simp only at e|-;rw[e]
  ·exact absurd e.symm (K5 (hN.bar q hq))) ⟨(aD q,uQ (ad l at_) (aD q)),List.mem_append.2 (.inl (List.mem_map.2 ⟨q,List.mem_filter.2 ⟨hq,hf⟩,rfl⟩)),rfl⟩
 unfold zL;rw[hv];exact hr
def tI:Ty:=⟨1,0,0⟩
def tB:Ty:=⟨2,0,0⟩
def ky(en:List En)(f:Fl)(a:xx)(t:Ty)(on:List dY):Prop:=
 (a.1=[]/\RI en t [a.2])\/(a.1≠[]/\∃v,fp f a.1=some v/\z3 v=t/\v.on=on)
def asY(en:List En)(t:Ty):Nat:=(en.getD t.e.toNat default).ct.length
inductive amn(en:List En)(f:Fl)(q:Pl)(t:Ty):Prop
 |copy (a:xx) (on:List dY) (h1:q.kind=1) (h2:q.args=[a]) (h3:q.on=on\/∃c,q.on=on++[c]) (h4:ky en f a t on)
 |un (a:xx) (u:Ty) (h1:q.kind=2) (h2:q.args=[a]) (h3:ky en f a u q.on) (h4:vz q.op u=(t,true))
 |bin (a b:xx) (u w:Ty) (h1:q.kind=3) (h2:q.args=[a,b]) (h3:ky en f a u q.on) (h4:ky en f b w q.on) (h5:dB q.op u w=(t,true))
 |ite (a b c:xx) (h1:q.kind=4) (h2:q.args=[a,b,c]) (h3:ky en f a tB q.on) (h4:ky en f b t q.on) (h5:ky en f c t q.on)
 |fby (a:xx) (h1:q.kind=5) (h2:q.args=[a]) (h3:ky en f a t q.on) (h4:RI en t q.init)
 |F7 (x:List UInt8) (v:Va) (a b:xx) (h1:q.kind=6) (h2:q.args=[(x,0),a,b]) (h3:x≠[]) (h4:fp f x=some v) (h5:v.on=q.on) (h6:z3 v=tB)
  (h7:ky en f a t (q.on++[(x,1)])) (h8:ky en f b t (q.on++[(x,0)]))
 |F8 (x:List UInt8) (v:Va) (l:List xx) (h1:q.kind=6) (h2:q.args=(x,0)::l) (h3:x≠[]) (h4:fp f x=some v) (h5:v.on=q.on) (h6:v.k=3/\v.l=0)
  (h7:l.length=asY en (z3 v)) (h8:∀(j:Nat) (a:xx),l[j]? =some a->ky en f a t (q.on++[(x,(j:Int))]))
 |arr (h1:q.kind=8) (h2:(q.args.length:Int)=t.n) (h3:∀a∈q.args,ky en f a (unT t) q.on) (h4:0<t.n)
 |at_ (a b:xx) (u:Ty) (h1:q.kind=9) (h2:q.args=[a,b]) (h3:ky en f a u q.on) (h4:0<u.n) (h5:ky en f b tI q.on) (h6:t=unT u)
 |set (a b c:xx) (h1:q.kind=10) (h2:q.args=[a,b,c]) (h3:ky en f a t q.on) (h4:0<t.n) (h5:ky en f b tI q.on) (h6:ky en f c (unT t) q.on)
structure aqC(l:jw)(i:Nat)(f:Fl)(q:Pl):Prop where
 kind:q.kind=7
 node:0<=q.node/\q.node<i
 ins:q.args.length=(ad l q.node).ins.length
 arg:∀(j:Nat) (a:xx) (d:Va),q.args[j]? =some a->(ad l q.node).ins[j]? =some d->ky l.enums f a (z3 d) q.on
 outs:q.names.length=(ad l q.node).outs.length
 out:∀(j:Nat) (s:List UInt8) (d:Va),q.names[j]? =some s->(ad l q.node).outs[j]? =some d->uQ f s=z3 d
 every:q.reset=true->ky l.enums f (q.ev,q.en) tB q.on
def dN(l:List Pl):List (List UInt8):=l.flatMap (·.names)
structure IC(l:jw)(i:Nat)(f:Fl)(q:Pl):Prop where
 ne:q.names≠[]
 nm:∀s∈q.names,∃v,fp f s=some v/\v.on=q.on
 on:∀c∈q.on,c.1≠[]/\∃v,fp f c.1=some v
 len:q.on.length<=1000/\q.args.length<=1000/\q.names.length<=1000
 rs:(q.reset=true->q.kind=7)/\(q.init≠[]->q.kind=5)
 body:(q.names.length=1/\amn l.enums f q (uQ f (aD q)))\/aqC l i f q
structure se(l:jw)(i:Nat)(f:Fl):Prop where
 uniq:(eQ f).Pairwise λa b=>a.name≠b.name
 var:∀v∈eQ f,bq l.enums (z3 v)=true/\v.name≠[]/\tw v.name/\v.name.length<=1000
 io:∀v∈f.ins++f.outs,v.on=[]
 eq:∀q∈f.eqs,IC l i f q
 once:(dN f.eqs).Pairwise (·≠·)
 awy:∀s∈dN f.eqs,∀d∈f.ins,d.name≠s
 Wo:∀v∈f.outs++f.vars,v.name∈dN f.eqs
 ord:∀(k:Nat) (q:Pl),f.eqs[k]? =some q->∀s∈fF q,s∈f.ins.map (·.name)\/s∈dN (f.eqs.take k)
 sz:f.ins.length<=1000/\f.outs.length<=1000/\f.eqs.length<=100000
theorem nn{f}{s}{v:Va}(h:fp f s=some v):v∈eQ f/\v.name=s:=by unfold fp at h;exact⟨List.mem_of_find?_eq_some h,by simpa using List.find?_some h⟩
theorem oK{s}{v:Va}:∀{l:List Va},l.Pairwise (λa b=>a.name≠b.name)->v∈l->v.name=s->l.find? (λv=>v.name==s)=some v
 |[],_,h,_=>by simp at h
 |x::l,hp,h,e=>by
  obtain⟨h1,h2⟩:=List.pairwise_cons.1 hp;rw[List.find?_cons];rcases List.mem_cons.1 h with h|h
  ·subst h;simp[e]
  ·have:(x.name==s)=false:=by have:=h1 v h;rw[e]at this;simpa using this
   rw[this];exact oK h2 h e
theorem se.fp{l:jw}{i:Nat}{f:Fl}(h:se l i f){v:Va}(hv:v∈eQ f):Proofs.YtcokmopocppmiaaGreat.fp f v.name=some v:=oK h.uniq hv rfl
theorem zf{l}{q:Pl}{s}(hq:q∈l)(hs:s∈q.names):s∈dN l:=List.mem_flatMap.2 ⟨q,hq,hs⟩
theorem qA(a b:List Pl):dN (a++b)=dN a++dN b:=List.flatMap_append
theorem tq{q:Pl}(h:q.names≠[]):aD q∈q.names:=by
 unfold aD;cases hn:q.names with
 |nil=>exact absurd hn h
 |cons a r=>simp
theorem se.names{l}{i}{f}(h:se l i f):sX f:=by
 refine⟨λq hq=> ?_,?_⟩
 ·obtain⟨v,hv,_⟩:=(h.eq q hq).nm _ (tq (h.eq q hq).ne);obtain⟨h1,h2⟩:=nn hv;rw[<-h2];exact(h.var v h1).2.2.1
 ·have key:∀l:List Pl,(∀q∈l,q.names≠[])->(dN l).Pairwise (·≠·)->l.Pairwise λa b=>aD a≠aD b:=by
   intro l;induction l with
   |nil=>intro _ _;exact .nil
   |cons x l ih=>
    intro hn hp;unfold dN at hp;rw[List.flatMap_cons,List.pairwise_append]at hp;exact List.pairwise_cons.2 ⟨λb hb=>hp.2.2 _ (tq (hn x (by simp))) _ (zf hb (tq (hn b (by simp[hb])))),ih (λq hq=>hn q (by simp[hq])) hp.2.1⟩
  exact key _ (λq hq=>(h.eq q hq).ne) h.once
structure F9(en:List En)(f:Fl)(env:kc)(done:List (List UInt8)):Prop where
 there:∀v∈eQ f,v.name∈done->bK env v.on=true->∃x,ow v.name env=some x/\RI en (z3 v) x
 gone:∀v∈eQ f,v.name∈done->bK env v.on=false->ow v.name env=none
 not:∀v∈eQ f,v.name∉done->ow v.name env=none
 dec:∀s∈done,∃v∈eQ f,v.name=s
 clk:∀v∈eQ f,v.name∈done->∀c∈v.on,c.1∈done
theorem Ga(env)(a b):bK env (a++b)=(bK env a&&bK env b):=by simp[bK]
theorem Mf{env anI}{on}(h:∀c∈on,ow c.1 anI=ow c.1 env):bK anI on=bK env on:=by
 unfold bK;rw[Bool.eq_iff_iff,List.all_eq_true,List.all_eq_true];have:∀c∈on,lP anI c.1=lP env c.1:=λc hc=>by unfold lP;rw[h c hc]
 exact⟨λk c hc=>by rw[<-this c hc];exact k c hc,λk c hc=>by rw[this c hc];exact k c hc⟩
theorem zg{en}{f}{env}{done}(h:F9 en f env done){a:xx}{t}{on}(ha:ky en f a t on)(hd:a.1≠[]->a.1∈done)(ho:bK env on=true):RI en t (aG env a):=by
 rcases ha with⟨h1,h2⟩|⟨h1,v,h2,h3,h4⟩
 ·unfold aG;rw[if_pos h1];exact h2
 ·obtain⟨hm,hn⟩:=nn h2;obtain⟨x,hx,hr⟩:=h.there v hm (by rw[hn];exact hd h1) (by rw[h4];exact ho);unfold aG lP;rw[if_neg h1,<-hn,hx,<-h3];exact hr
theorem nA{k}:∀{S:List (List UInt8)} {vs:List (List Int)} {env:kc},k∉S->ow k (dQ S vs env)=ow k env
 |[],_,_,_=>by simp[dQ]
 |s::S,[],_,_=>by simp[dQ]
 |s::S,v::vs,env,h=>by rw[dQ,nA (λhm=>h (by simp[hm])),F6,if_neg (λe=>h (by simp[e]))]
theorem ID{en:List En}{P:List UInt8->Ty}:∀{S:List (List UInt8)} {vs:List (List Int)} {env:kc},S.Pairwise (·≠·)->vs.length=S.length->(∀(j:Nat) (s:List UInt8) (v:List Int),S[j]? =some s->vs[j]? =some v->RI en (P s) v)->
 ∀k∈S,∃x,ow k (dQ S vs env)=some x/\RI en (P k) x
 |[],_,_,_,_,_,k,hk=>by simp at hk
 |s::S,[],_,_,hl,_,_,_=>by simp at hl
 |s::S,v::vs,env,hp,hl,hr,k,hk=>by
  obtain⟨h1,h2⟩:=List.pairwise_cons.1 hp;rw[dQ];by_cases e:k∈S
  ·exact ID h2 (by simpa using hl) (λj s v hs hv=>hr (j+1) s v (by simpa using hs) (by simpa using hv)) k e
  ·rcases List.mem_cons.1 hk with e2|e2
   ·subst e2;rw[nA e,F6,if_pos rfl];exact⟨v,rfl,hr 0 k v rfl rfl⟩
   ·exact absurd e2 e
theorem F9.add{en:List En}{f:Fl}{env:kc}{done:List (List UInt8)}(hu:(eQ f).Pairwise λa b=>a.name≠b.name)(h:F9 en f env done){S:List (List UInt8)}{vs:List (List Int)}{on:List dY}(hp:S.Pairwise (·≠·))(hl:vs.length=S.length)
 (hr:∀(j:Nat) (s:List UInt8) (v:List Int),S[j]? =some s->vs[j]? =some v->RI en (uQ f s) v) (hn:∀s∈S,s∉done) (hv:∀s∈S,∃v,fp f s=some v/\v.on=on)
 (hc:∀c∈on,c.1∈done) (ho:bK env on=true):F9 en f (dQ S vs env) (S++done):=by
 have old:∀k∈done,ow k (dQ S vs env)=ow k env:=λk hk=>nA λhm=>hn k hm hk;have hold:∀v∈eQ f,v.name∈done->bK (dQ S vs env) v.on=bK env v.on:=λv hv hd=>Mf λc hc=>old _ (h.clk v hv hd c hc);have new:∀v∈eQ f,v.name∈S->v.on=on:=λv zb hs=>by obtain⟨w,hw,e⟩:=hv _ hs;rw[show Proofs.YtcokmopocppmiaaGreat.fp f v.name=some v from oK hu zb rfl]at hw;injection hw with hw;rw[hw];exact e
 have BO:bK (dQ S vs env) on=true:=by rw[Mf λc jg=>old _ (hc c jg)];exact ho
 refine⟨λv hm hd hh=> ?_,λv hm hd hh=> ?_,λv hm hd=> ?_,λs hs=> ?_,λv hm hd c jg=> ?_⟩
 ·by_cases e:v.name∈S
  ·obtain⟨x,hx,hxr⟩:=ID (P:=uQ f) (env:=env) hp hl hr _ e;refine⟨x,hx,?_⟩;have:uQ f v.name=z3 v:=by unfold uQ;rw[show Proofs.YtcokmopocppmiaaGreat.fp f v.name=some v from oK hu hm rfl];rfl
   rwa[this]at hxr
  ·have oF:v.name∈done:=(List.mem_append.1 hd).resolve_left e;rw[hold v hm oF]at hh;rw[old _ oF];exact h.there v hm oF hh
 ·by_cases e:v.name∈S
  ·rw[new v hm e,BO]at hh;cases hh
  ·have oF:v.name∈done:=(List.mem_append.1 hd).resolve_left e;rw[hold v hm oF]at hh;rw[old _ oF];exact h.gone v hm oF hh
 ·rw[nA λhs=>hd (List.mem_append.2 (.inl hs))];exact h.not v hm λhs=>hd (List.mem_append.2 (.inr hs))
 ·rcases List.mem_append.1 hs with hs|hs
  ·obtain⟨v,zb,_⟩:=hv s hs;obtain⟨h1,h2⟩:=nn zb;exact⟨v,h1,h2⟩
  ·exact h.dec s hs
 ·rcases List.mem_append.1 hd with e|e
  ·rw[new v hm e]at jg;exact List.mem_append.2 (.inr (hc c jg))
  ·exact List.mem_append.2 (.inr (h.clk v hm e c jg))
theorem F9.skip{en:List En}{f:Fl}{env:kc}{done:List (List UInt8)}(hu:(eQ f).Pairwise λa b=>a.name≠b.name)(h:F9 en f env done){S:List (List UInt8)}{on:List dY}(hn:∀s∈S,s∉done)(hv:∀s∈S,∃v,fp f s=some v/\v.on=on)
 (hc:∀c∈on,c.1∈done) (ho:bK env on=false):F9 en f env (S++done):=by
 have new:∀v∈eQ f,v.name∈S->v.on=on:=λv zb hs=>by obtain⟨w,hw,e⟩:=hv _ hs;rw[show Proofs.YtcokmopocppmiaaGreat.fp f v.name=some v from oK hu zb rfl]at hw;injection hw with hw;rw[hw];exact e
 refine⟨λv hm hd hh=> ?_,λv hm hd hh=> ?_,λv hm hd=>h.not v hm λhs=>hd (List.mem_append.2 (.inr hs)),λs hs=> ?_,λv hm hd c jg=> ?_⟩
 ·rcases List.mem_append.1 hd with e|e
  ·rw[new v hm e,ho]at hh;cases hh
  ·exact h.there v hm e hh
 ·rcases List.mem_append.1 hd with e|e
  ·exact h.not v hm (hn _ e)
  ·exact h.gone v hm e hh
 ·rcases List.mem_append.1 hs with hs|hs
  ·obtain⟨v,zb,_⟩:=hv s hs;obtain⟨h1,h2⟩:=nn zb;exact⟨v,h1,h2⟩
  ·exact h.dec s hs
 ·rcases List.mem_append.1 hd with e|e
  ·rw[new v hm e]at jg;exact List.mem_append.2 (.inr (hc c jg))
  ·exact List.mem_append.2 (.inr (h.clk v hm e c jg))
theorem QH(en):bq en tI=true:=by simp[bq,tI]
theorem yf(en):bq en tB=true:=by simp[bq,tB]
theorem RI.int{en}{n}(h:gD n):RI en tI [n]:=RI.single (QH en) rfl (by simp[wP,tI]) h
theorem RI.bool{en}{n}(h:n=0\/n=1):RI en tB [n]:=RI.single (yf en) rfl (by simpa[wP,tB]using h) (by rcases h with rfl|rfl<;>(unfold gD;omega))
theorem RI.iO{en}{x:List Int}(h:RI en tB x):x=[x.getD 0 0]/\(x.getD 0 0=0\/x.getD 0 0=1):=by obtain⟨h1,h2,_⟩:=h.one rfl;exact⟨h1,by simpa[wP,tB]using h2⟩
theorem aqD(b):tr b=0\/tr b=1:=by cases b<;>simp[tr]
theorem tl(x):gD (IntKind.i64.wrap x):=by simp only[IntKind.wrap_i64,gD];omega
theorem amo{en}{op}{u t}{x:List Int}(h:vz op u=(t,true))(hx:RI en u x):(Sq op (x.getD 0 0)).2=0/\RI en t [(Sq op (x.getD 0 0)).1]:=by
 unfold vz at h;split at h
 ·rename_i c;injection h with h _;subst h;simp only[Sq,if_pos c.1];exact⟨trivial,RI.int (tl _)⟩
 ·split at h
  ·rename_i c;injection h with h _;subst h;have:¬op=1:=by omega
   simp only[Sq,if_neg this,if_pos c.1];exact⟨trivial,RI.bool (aqD _)⟩
  ·cases h
theorem ahN{a b:Int}(ha:gD a)(hb:b≠0):gD (a.tmod b):=by
 unfold gD at*;have h1:(a.tmod b).natAbs<=a.natAbs:=by rw[Int.natAbs_tmod];exact Nat.mod_le _ _
 rcases Int.le_total 0 a with c|c
 ·have:=Int.tmod_nonneg b c;omega
 ·have h2:=Int.tmod_nonneg b (show 0<= -a by omega);rw[Int.neg_tmod]at h2;omega
theorem ahO{en}{op}{u w t}{x y:List Int}(h:dB op u w=(t,true))(hx:RI en u x)(hy:RI en w y):
 gD (x.getD 0 0)/\gD (y.getD 0 0)/\((As op (x.getD 0 0) (y.getD 0 0)).2=0->RI en t [(As op (x.getD 0 0) (y.getD 0 0)).1]):=by
 have hh:(u.n=0/\w.n=0)/\((oP op=1/\t=tI)\/((oP op=2\/oP op=3\/oP op=4)/\t=tB)):=by
  unfold dB at h;split at h
  ·rename_i g;split at h
   ·rename_i c;simp only[Bool.and_eq_true,hZ,decide_eq_true_eq]at c;injection h with h _;rw[c.1,c.2];exact⟨⟨rfl,rfl⟩,.inl ⟨g,h.symm⟩⟩
   ·cases h
  ·split at h
   ·rename_i g;split at h
    ·rename_i c;simp only[Bool.and_eq_true,hZ,decide_eq_true_eq]at c;injection h with h _;rw[c.1,c.2];exact⟨⟨rfl,rfl⟩,.inr ⟨.inl g,h.symm⟩⟩
    ·cases h
   ·split at h
    ·rename_i g;split at h
     ·rename_i c;simp only[Bool.and_eq_true,hZ,decide_eq_true_eq]at c;injection h with h _;rw[c.1,c.2];exact⟨⟨rfl,rfl⟩,.inr ⟨.inr (.inl g),h.symm⟩⟩
     ·cases h
    ·split at h
     ·rename_i g;split at h
      ·rename_i c;simp only[Bool.and_eq_true,hZ,decide_eq_true_eq,beq_iff_eq]at c;injection h with h _;rw[<-c.1];exact⟨⟨c.2,c.2⟩,.inr ⟨.inr (.inr g),h.symm⟩⟩
      ·cases h
     ·cases h
 obtain⟨⟨h1,h2⟩,h3⟩:=hh;have a64:=(hx.one h1).2.2;have b64:=(hy.one h2).2.2;refine⟨a64,b64,λhe=> ?_⟩;generalize x.getD 0 0=a at*;generalize y.getD 0 0=b at*;unfold oP at h3;unfold As at he|-;rcases h3 with⟨g,rfl⟩|⟨g,rfl⟩
 ·have c:3<=op/\op<=7:=by
   split at g
   ·assumption
   ·split at g
    ·omega
    ·split at g
     ·omega
     ·split at g<;>omega
  rw[if_pos c]at he|-;refine RI.int ?_;unfold CU at he|-;split
  ·exact tl _
  ·split
   ·exact tl _
   ·split
    ·exact tl _
    ·split
     ·unfold gD;omega
     ·rename_i hb;split
      ·exact tl _
      ·exact ahN a64 hb
 ·have c:8<=op/\op<=16:=by
   split at g
   ·omega
   ·split at g
    ·omega
    ·split at g
     ·omega
     ·split at g<;>omega
  have c2:¬(3<=op/\op<=7):=by omega
  rw[if_neg c2,if_pos c]at he|-;exact RI.bool (aqD _)
theorem TQ{en}{t}(h:bq en t=true):bq en (unT t)=true:=by unfold bq at h|-;simp only[unT,Bool.and_eq_true]at h|-;exact⟨⟨⟨h.1.1.1,rfl⟩,rfl⟩,h.2⟩
theorem TN{en}{t:Ty}(h:bq en t=true)(h0:0<t.n):fS t=t.n:=by simp only[bq,Bool.and_eq_true,decide_eq_true_eq]at h;unfold fS;rw[if_neg (by omega),if_neg (by omega)]
theorem iQ{q:Pl}{i:Nat}{a:xx}(h:q.args[i]? =some a):bg q i=a:=by unfold bg;rw[List.getD_eq_getElem?_getD,h];rfl
theorem mem_reads{q:Pl}{a:xx}(h5:q.kind≠5)(ha:a∈q.args)(hn:a.1≠[]):a.1∈fF q:=by unfold fF;rw[if_neg h5,List.mem_filter];exact⟨List.mem_append.2 (.inl (List.mem_append.2 (.inl (List.mem_map.2 ⟨a,ha,rfl⟩)))),by simpa using hn⟩
theorem IE{q:Pl}{c:dY}(hc:c∈q.on)(hn:c.1≠[]):c.1∈fF q:=by unfold fF;rw[List.mem_filter];exact⟨List.mem_append.2 (.inr (List.mem_map.2 ⟨c,hc,rfl⟩)),by simpa using hn⟩
theorem Wq{q:Pl}(hr:q.reset=true)(hn:q.ev≠[]):q.ev∈fF q:=by unfold fF;rw[List.mem_filter,if_pos hr];exact⟨List.mem_append.2 (.inl (List.mem_append.2 (.inr (by simp)))),by simpa using hn⟩
theorem aam{l:jw}{i}{f}{q:Pl}{m}{env}{done}(hP:F9 l.enums f env done)(hq:IC l i f q)(ht:bq l.enums (uQ f (aD q))=true)
 (hd:∀s∈fF q,s∈done) (ho:bK env q.on=true) (hm:q.kind=5->RI l.enums (uQ f (aD q)) (zL m (aD q))) (hk:amn l.enums f q (uQ f (aD q))):
 aU f env q/\((aM f m env q).2=0->RI l.enums (uQ f (aD q)) (aM f m env q).1):=by
 have hA:∀(a:xx) (t:Ty) (on:List dY),a∈q.args->q.kind≠5->ky l.enums f a t on->bK env on=true->RI l.enums t (aG env a):=λa t on ha h5 Gz BO=>
  zg hP Gz (λhn=>hd _ (mem_reads h5 ha hn)) BO
 cases hk with
 |copy a on h1 h2 h3 h4=>
  have BO:bK env on=true:=by
   rcases h3 with h3|⟨c,h3⟩
   ·rw[<-h3];exact ho
   ·rw[h3,Ga,Bool.and_eq_true]at ho;exact ho.1
  have e:=iQ (q:=q) (i:=0) (a:=a) (by rw[h2];rfl);have r:=hA a _ on (by rw[h2];simp) (by omega) h4 BO;simp only[aU,aM,h1,e,h2];exact⟨by simp,λ_=>by simpa using r⟩
 |un a u h1 h2 h3 h4=>
  have e:=iQ (q:=q) (i:=0) (a:=a) (by rw[h2];rfl);have r:=hA a u q.on (by rw[h2];simp) (by omega) h3 ho;have k:=amo h4 r;simp only[aU,aM,h1,e,h2,aP];exact⟨by simpa using r.ne,λ_=>by simpa using k.2⟩
 |bin a b u w h1 h2 h3 h4 h5=>
  have e:=iQ (q:=q) (i:=0) (a:=a) (by rw[h2];rfl);have e':=iQ (q:=q) (i:=1) (a:=b) (by rw[h2];rfl);have r:=hA a u q.on (by rw[h2];simp) (by omega) h3 ho;have r':=hA b w q.on (by rw[h2];simp) (by omega) h4 ho;have k:=ahO h5 r r';simp only[aU,aM,h1,e,e',h2,aP];exact⟨by simpa using⟨r.ne,r'.ne,k.1,k.2.1⟩,λhe=>by simpa using k.2.2 (by simpa using he)⟩
 |ite a b c h1 h2 h3 h4 h5=>
  have e:=iQ (q:=q) (i:=0) (a:=a) (by rw[h2];rfl);have e':=iQ (q:=q) (i:=1) (a:=b) (by rw[h2];rfl);have MT:=iQ (q:=q) (i:=2) (a:=c) (by rw[h2];rfl);have r:=hA a tB q.on (by rw[h2];simp) (by omega) h3 ho;have r':=hA b _ q.on (by rw[h2];simp) (by omega) h4 ho;have r'':=hA c _ q.on (by rw[h2];simp) (by omega) h5 ho;simp only[aU,aM,h1,e,e',MT,h2];refine⟨by simpa using r.ne,λ_=> ?_⟩;simp only[Int.reduceEq,if_false,if_true];split
  ·exact r'
  ·exact r''
 |fby a h1 h2 h3 h4=>
  simp only[aU,aM,h1];exact⟨by simp,λ_=>by simpa using hm h1⟩
 |F7 x v a b h1 h2 h3 h4 h5 h6 h7 h8=>
  have e:=iQ (q:=q) (i:=0) (a:=(x,0)) (by rw[h2];rfl);have r:=hA (x,0) tB q.on (by rw[h2];simp) (by omega) (.inr ⟨h3,v,h4,h6,h5⟩) ho;obtain⟨r1,r2⟩:=r.iO;have hx:aG env (x,0)=lP env x:=by unfold aG;rw[if_neg h3]
  have hb:sG f x=true:=by unfold sG;rw[h4];have:=congrArg Ty.k h6;simp only[z3,tB]at this;simp[this]
  have BO:∀n:Int,(aG env (x,0)).getD 0 0=n->bK env (q.on++[(x,n)])=true:=λn hn=>by rw[Ga,ho,Bool.true_and];simp only[bK,List.all_cons,List.all_nil,Bool.and_true,decide_eq_true_eq];rw[<-hx,r1,hn]
  have hmi:gZ f env q=1-(aG env (x,0)).getD 0 0:=by unfold gZ;rw[e,if_pos (show sG f ((x,0):xx).1=true from hb)];unfold aP;rcases r2 with r2|r2<;>rw[r2]<;>rfl
  have hv:aU f env q↔(aG env (bg q 0)≠[]/\q.args.length<=1000/\0<=gZ f env q/\gZ f env q+1<q.args.length):=by simp[aU,h1]
  have hs:aM f m env q=(aG env (bg q ((gZ f env q).toNat+1)),0):=by simp[aM,h1]
  rw[hv,hs];refine⟨⟨by rw[e];exact r.ne,hq.len.2.1,by rw[hmi];rcases r2 with r2|r2<;>rw[r2]<;>decide,by rw[hmi,h2];rcases r2 with r2|r2<;>rw[r2]<;>simp⟩,λ_=> ?_⟩;rw[hmi];rcases r2 with r2|r2
  ·rw[r2];show RI _ _ (aG env (bg q 2));rw[iQ (q:=q) (i:=2) (a:=b) (by rw[h2];rfl)];exact hA b _ _ (by rw[h2];simp) (by omega) h8 (BO 0 r2)
  ·rw[r2];show RI _ _ (aG env (bg q 1));rw[iQ (q:=q) (i:=1) (a:=a) (by rw[h2];rfl)];exact hA a _ _ (by rw[h2];simp) (by omega) h7 (BO 1 r2)
 |F8 x v la h1 h2 h3 h4 h5 h6 h7 h8=>
  have e:=iQ (q:=q) (i:=0) (a:=(x,0)) (by rw[h2];rfl);have r:=hA (x,0) (z3 v) q.on (by rw[h2];simp) (by omega) (.inr ⟨h3,v,h4,rfl,h5⟩) ho;obtain⟨r1,r2,_⟩:=r.one h6.2;have hx:aG env (x,0)=lP env x:=by unfold aG;rw[if_neg h3]
  have hb:sG f x=false:=by unfold sG;rw[h4];simp[h6.1]
  have hn:0<=(aG env (x,0)).getD 0 0/\(aG env (x,0)).getD 0 0<asY l.enums (z3 v):=by have hk:(z3 v).k=3:=h6.1;simp only[wP,hk]at r2;simpa[asY]using r2
  have hmi:gZ f env q=(aG env (x,0)).getD 0 0:=by unfold gZ;rw[e,if_neg (show¬sG f ((x,0):xx).1=true by rw[hb];simp)];rfl
  have hv:aU f env q↔(aG env (bg q 0)≠[]/\q.args.length<=1000/\0<=gZ f env q/\gZ f env q+1<q.args.length):=by simp[aU,h1]
  have hs:aM f m env q=(aG env (bg q ((gZ f env q).toNat+1)),0):=by simp[aM,h1]
  rw[hv,hs,hmi];refine⟨⟨by rw[e];exact r.ne,hq.len.2.1,hn.1,by rw[h2];simp only[List.length_cons];omega⟩,λ_=> ?_⟩;generalize hw:(aG env (x,0)).getD 0 0=n at*;have hl:n.toNat<la.length:=by omega
  have ha:la[n.toNat]? =some la[n.toNat]:=List.getElem?_eq_getElem hl;have ha2:q.args[n.toNat+1]? =some la[n.toNat]:=by rw[h2];simpa using ha
  rw[iQ ha2];refine hA _ _ _ (List.mem_of_getElem? ha2) (by omega) (h8 _ _ ha) ?_;rw[Ga,ho,Bool.true_and];simp only[bK,List.all_cons,List.all_nil,Bool.and_true,decide_eq_true_eq];rw[<-hx,r1,show((n.toNat:Nat):Int)=n by omega]
 |arr h1 h2 h3 h4=>
  have r:∀a∈q.args,RI l.enums (unT (uQ f (aD q))) (aG env a):=λa ha=>hA a _ q.on ha (by omega) (h3 a ha) ho;have hv:aU f env q↔(q.args.length<=1000/\∀a∈q.args,aG env a≠[]):=by simp[aU,h1]
  have hs:aM f m env q=(q.args.map (aP env),0):=by simp[aM,h1]
  rw[hv,hs];refine⟨⟨hq.len.2.1,λa ha=>(r a ha).ne⟩,λ_=>RI.mk' ht (by rw[TN ht h4,List.length_map];exact h2) λn hn=> ?_⟩;obtain⟨a,ha,rfl⟩:=List.mem_map.1 hn;obtain⟨_,k2,k3⟩:=(r a ha).one rfl;exact⟨k2,k3⟩
 |at_ a b u h1 h2 h3 h4 h5 h6=>
  have e:=iQ (q:=q) (i:=0) (a:=a) (by rw[h2];rfl);have e':=iQ (q:=q) (i:=1) (a:=b) (by rw[h2];rfl);have r:=hA a u q.on (by rw[h2];simp) (by omega) h3 ho;have r':=hA b tI q.on (by rw[h2];simp) (by omega) h5 ho;have hv:aU f env q↔(q.args.length=2/\DN (aG env (bg q 0))/\aG env (bg q 1)≠[]):=by simp[aU,h1]
  have hs:aM f m env q=(if 0<=aP env (bg q 1)/\aP env (bg q 1)<(aG env (bg q 0)).length then([(aG env (bg q 0)).getD (aP env (bg q 1)).toNat 0],0)else([],16)):=by simp[aM,h1]
  rw[hv,hs,e,e'];refine⟨⟨by rw[h2];rfl,by have:=r.len.2;unfold DN;omega,r'.ne⟩,λhe=> ?_⟩;split at he
  ·rename_i c;rw[if_pos c,h6];have hm:(aG env a).getD (aP env b).toNat 0∈aG env a:=by rw[List.getD_eq_getElem?_getD,List.getElem?_eq_getElem (by omega)];exact List.getElem_mem _
   exact RI.single (TQ r.parts.1) rfl (r.parts.2.2.1 _ hm) (r.2 _ hm)
  ·simp at he
 |set a b c h1 h2 h3 h4 h5 h6=>
  have e:=iQ (q:=q) (i:=0) (a:=a) (by rw[h2];rfl);have e':=iQ (q:=q) (i:=1) (a:=b) (by rw[h2];rfl);have MT:=iQ (q:=q) (i:=2) (a:=c) (by rw[h2];rfl);have r:=hA a _ q.on (by rw[h2];simp) (by omega) h3 ho;have r':=hA b tI q.on (by rw[h2];simp) (by omega) h5 ho;have r'':=hA c _ q.on (by rw[h2];simp) (by omega) h6 ho;have hv:aU f env q↔(q.args.length=3/\DN (aG env (bg q 0))/\aG env (bg q 1)≠[]/\aG env (bg q 2)≠[]):=by simp[aU,h1]
  have hs:aM f m env q=(if 0<=aP env (bg q 1)/\aP env (bg q 1)<(aG env (bg q 0)).length then((aG env (bg q 0)).set (aP env (bg q 1)).toNat (aP env (bg q 2)),0)else([],16)):=by simp[aM,h1]
  rw[hv,hs,e,e',MT];refine⟨⟨by rw[h2];rfl,by have:=r.len.2;unfold DN;omega,r'.ne,r''.ne⟩,λhe=> ?_⟩;split at he
  ·rename_i cc;rw[if_pos cc];obtain⟨_,k2,k3⟩:=r''.one rfl;refine RI.mk' ht (by rw[List.length_set];exact r.parts.2.1) λn hn=> ?_;rcases List.mem_or_eq_of_mem_set hn with hn|hn
   ·exact⟨r.parts.2.2.1 n hn,r.2 n hn⟩
   ·rw[hn];exact⟨k2,k3⟩
  ·simp at he
structure mC(l:jw):Prop where
 Cj:∀(i:Nat) (f:Fl),l.fs[i]? =some f->se l i f
 cap:okW l
theorem jY{l:jw}{at_:Int}(h0:0<=at_)(h1:at_<l.fs.length):∃i:Nat,at_=i/\l.fs[i]? =some (ad l at_):=by refine⟨at_.toNat,by omega,?_⟩;unfold ad;rw[List.getD_eq_getElem?_getD,List.getElem?_eq_getElem (by omega)];rfl
theorem mC.names{l}(h:mC l)(at_):sX (ad l at_):=by
 rcases Nat.lt_or_ge at_.toNat l.fs.length with c|c
 ·have:l.fs[at_.toNat]? =some (ad l at_):=by unfold ad;rw[List.getD_eq_getElem?_getD,List.getElem?_eq_getElem c];rfl
  exact(h.Cj _ _ this).names
 ·have:ad l at_=default:=by unfold ad;rw[List.getD_eq_getElem?_getD,List.getElem?_eq_none c];rfl
  rw[this];exact⟨λq hq=>by simp[default]at hq,.nil⟩
theorem u4(l):∀(n:Nat) (at_:Int),(eo l n at_).length=(bH l n at_).length
 |0,_=>rfl
 |n+1,at_=>by simp only[eo,bH,List.length_append,List.length_map,List.length_flatMap];have:(λq:Pl=>(eo l n q.node).length)=λq=>(bH l n q.node).length:=funext λq=>u4 l n q.node;rw[this]
theorem yk{α β}{f g:α->List β}:∀{l:List α},(∀x∈l,f x=g x)->l.flatMap f=l.flatMap g
 |[],_=>rfl
 |x::l,h=>by rw[List.flatMap_cons,List.flatMap_cons,h x (by simp),yk λy hy=>h y (by simp[hy])]
theorem ml{at_}{q:Pl}:bk at_ q=true↔q.kind=7/\0<q.names.length/\0<=q.node/\q.node<at_:=by simp[bk]
theorem Gb(l):∀(n k:Nat) (at_:Int),at_<n->at_<k->0<=at_->eo l n at_=eo l k at_
 |0,_,_,h,_,h0=>by omega
 |_+1,0,_,_,h,h0=>by omega
 |n+1,k+1,at_,h,h',h0=>by simp only[eo];congr 1;refine yk λq hq=> ?_;obtain⟨_,_,c1,c2⟩:=ml.1 (List.mem_filter.1 hq).2;rw[Gb l n k q.node (by omega) (by omega) c1]
def Fit(l:jw)(at_:Int)(m:List cW):Prop:=lC l.enums (eo l 11 at_) m
theorem Mg{l:jw}(h:mC l):∀(n:Nat) (at_:Int),at_<l.fs.length->0<=at_->∀x∈eo l n at_,x.1.length<=n*1001
 |0,_,_,_,x,hx=>by simp[eo]at hx
 |n+1,at_,h1,h0,x,hx=>by
  obtain⟨i,rfl,hf⟩:=jY h0 h1;have hG:=h.Cj i _ hf;have hn:∀q∈(ad l i).eqs,(aD q).length<=1000:=λq hq=>by obtain⟨v,hv,_⟩:=(hG.eq q hq).nm _ (tq (hG.eq q hq).ne);obtain⟨e1,e2⟩:=nn hv;rw[<-e2];exact(hG.var v e1).2.2.2
  rcases tp hx with⟨q,hq,_,rfl⟩|⟨q,hq,hc,y,hy,rfl⟩
  ·have:=hn q hq;simp only;omega
  ·obtain⟨_,_,c1,c2⟩:=ml.1 hc;have:=hn q hq;have:=Mg h n q.node (by omega) c1 y hy;simp only[Mm,List.length_append,List.length_cons,List.length_nil];omega
theorem Fit.mem{l}(h:mC l){at_}(hv:rH l at_=true){m}(hm:Fit l at_ m):mD m:=by
 obtain⟨h0,h1⟩:=mI hv;refine⟨?_,λc hc=> ?_⟩
 ·have:=NF hm;rw[u4]at this;have:=(ad0 h.cap hv).2;omega
 ·obtain⟨x,hx,e,hr⟩:=Ad hm c hc;have:=hr.len.2;have:=Mg h 11 at_ h1 h0 x hx;rw[e];omega
theorem aan{mf}(h:Mh mf):∀{l:List Pl} {q:Pl},q∈l->(U9 mf q).1<=Gc mf l
 |[],_,hq=>by simp at hq
 |x::l,q,hq=>by
  have h1:=Gd h x;have h2:=wh h l;simp only[Gc];rcases List.mem_cons.1 hq with e|hq
  ·rw[e];omega
  ·have:=aan h hq;omega
theorem aao{mf}(h:Mh mf):∀{l:List Pl} {q:Pl},q∈l->(U9 mf q).2<=MX mf l
 |[],_,hq=>by simp at hq
 |x::l,q,hq=>by
  have h1:=Gd h x;have h2:=wi h l;simp only[MX];rcases List.mem_cons.1 hq with e|hq
  ·rw[e];omega
  ·have:=aao h hq;omega
theorem aap{l}{at_}(hv:rH l at_=true){q:Pl}(hq:q∈(ad l at_).eqs)(hc:bk at_ q=true):rH l q.node=true:=by
 obtain⟨h0,h1⟩:=mI hv;obtain⟨i,rfl⟩:∃i:Nat,at_=i:=⟨at_.toNat,by omega⟩;obtain⟨_,_,c1,c2⟩:=ml.1 hc;obtain⟨k,hk⟩:∃k:Nat,q.node=k:=⟨q.node.toNat,by omega⟩;have e:gA l i=(jT l (i+1)).getD i (0,0):=by simp only[gA,if_pos (And.intro h0 h1),Int.toNat_natCast]
 rw[K6]at e;have e2:gA l k=(jT l (k+1)).getD k (0,0):=by rw[hk]at c1 c2;simp only[gA,if_pos (show(0:Int)<=k/\(k:Int)<l.fs.length by omega),Int.toNat_natCast]
 have e3:gA l k=U9 (jT l i) q:=by unfold U9;rw[e2,<-QN l i k (by omega),hk,Int.toNat_natCast]
 have hm:=List.mem_filter.2 ⟨hq,hc⟩;have lI:=zh l i;have s1:=aan lI hm;have s2:=aao lI hm;have fE:=Gd lI q;have p1:=wh lI ((ad l i).eqs.filter (bk i));have p3:1<=(gA l k).2:=by rw[e2,K6];have az4:=zh l k;have:=wi az4 ((ad l k).eqs.filter (bk k));simp only[rowOf];omega
 rw[<-e3]at s1 s2 fE;simp only[rH,e,rowOf,Bool.and_eq_true,decide_eq_true_eq,Bool.not_eq_true',beq_eq_false_iff_ne]at hv;rw[hk];simp only[rH,Bool.and_eq_true,decide_eq_true_eq,Bool.not_eq_true',beq_eq_false_iff_ne];omega
def Ae(en:List En)(d:List Va)(v:List (List Int)):Prop:=v.length=d.length/\∀(j:Nat) (x:Va) (y:List Int),d[j]? =some x->v[j]? =some y->RI en (z3 x) y
theorem se.io'{l}{i}{f:Fl}(h:se l i f){v:Va}(hv:v∈f.ins\/v∈f.outs):v∈eQ f/\v.on=[]:=by
 have:=h.io v (List.mem_append.2 hv);refine⟨?_,this⟩;unfold eQ;rcases hv with hv|hv
 ·exact List.mem_append.2 (.inl (List.mem_append.2 (.inl hv)))
 ·exact List.mem_append.2 (.inl (List.mem_append.2 (.inr hv)))
theorem TW{l:jw}(h:mC l):∀(n:Nat) (at_:Int),at_<l.fs.length->0<=at_->lC l.enums (eo l n at_) (bH l n at_)
 |0,_,_,_=>trivial
 |n+1,at_,h1,h0=>by
  obtain⟨i,rfl,hf⟩:=jY h0 h1;have hG:=h.Cj i _ hf;have k1:∀r:List Pl,(∀q∈r,q∈(ad l i).eqs/\gY q=true)->lC l.enums (r.map λq=>(aD q,uQ (ad l i) (aD q))) (r.map QO):=by
   intro r;induction r with
   |nil=>intro _;trivial
   |cons q r ih=>
    intro hr;refine⟨rfl,?_,ih λx hx=>hr x (by simp[hx])⟩;obtain⟨hq,hb⟩:=hr q (by simp);simp only[gY,Bool.and_eq_true,beq_iff_eq]at hb;rcases(hG.eq q hq).body with⟨_,hk⟩|hk
    ·cases hk with
     |fby a _ _ _ h4=>exact h4
     |copy _ _ h|un _ _ h|bin _ _ _ _ h|ite _ _ _ h|F7 _ _ _ _ h|F8 _ _ _ h|arr h|at_ _ _ _ h|set _ _ _ h=>omega
    ·have:=hk.kind;omega
  have k2:∀r:List Pl,(∀q∈r,bk i q=true)->lC l.enums (r.flatMap λq=>(eo l n q.node).map (Mm (aD q++[47]))) (r.flatMap λq=>(bH l n q.node).map (iT (aD q++[47]))):=by
   intro r;induction r with
   |nil=>intro _;trivial
   |cons q r ih=>
    intro hr;obtain⟨_,_,c1,c2⟩:=ml.1 (hr q (by simp));rw[List.flatMap_cons,List.flatMap_cons];exact K2 (TR _ (TW h n q.node (by omega) c1)) (ih λx hx=>hr x (by simp[hx]))
  exact K2 (k1 _ λq hq=>⟨(List.mem_filter.1 hq).1,(List.mem_filter.1 hq).2⟩) (k2 _ λq hq=>(List.mem_filter.1 hq).2)
theorem Fit.start{l}(h:mC l){at_}(hv:rH l at_=true):Fit l at_ (b7 l at_):=by obtain⟨h0,h1⟩:=mI hv;unfold Fit b7;rw[if_pos hv];exact TW h 11 at_ h1 h0
theorem Fit.under{l:jw}(h:mC l){at_:Int}(h0:0<=at_)(h1:at_<l.fs.length){m:List cW}(hm:Fit l at_ m){q:Pl}(hq:q∈(ad l at_).eqs)(hc:bk at_ q=true):Fit l q.node (fu m (aD q)):=by have:=ahM (h.names at_) hm hq hc;obtain⟨_,_,c1,c2⟩:=ml.1 hc;have hl:=h.cap.1.1;unfold Fit;rwa[Gb l 11 10 q.node (by omega) (by omega) c1]
theorem Fit.over{l:jw}(h:mC l){at_:Int}(h0:0<=at_)(h1:at_<l.fs.length){m sub:List cW}(hm:Fit l at_ m){q:Pl}(hq:q∈(ad l at_).eqs)(hc:bk at_ q=true)(hs:Fit l q.node sub):Fit l at_ (iD m (aD q) sub):=by obtain⟨_,_,c1,c2⟩:=ml.1 hc;have hl:=h.cap.1.1;unfold Fit at hs;rw[Gb l 11 10 q.node (by omega) (by omega) c1]at hs;exact amm h.names hm hq hs
def zi(f:Fl)(pre:List Pl)(D:List (List UInt8)):Prop:=∀s,s∈D↔s∈f.ins.map (·.name)\/s∈dN pre
def amp(l:jw)(at_:Int)(rec:QJ)(ok:Ok3):Prop:=
 ∀q∈(ad l at_).eqs,bk at_ q=true->∀m' adx,Fit l q.node m'->Ae l.enums (ad l q.node).ins adx->
  ok q.node m' adx/\((rec q.node m' adx).2.2=0->Ae l.enums (ad l q.node).outs (rec q.node m' adx).1/\Fit l q.node (rec q.node m' adx).2.1)
theorem aaq{l}{i}{f:Fl}(h:se l i f){q}(hq:q∈f.eqs):(aD q).length<=1000/\tw (aD q):=by obtain⟨v,hv,_⟩:=(h.eq q hq).nm _ (tq (h.eq q hq).ne);obtain⟨e1,e2⟩:=nn hv;rw[<-e2];exact⟨(h.var v e1).2.2.2,(h.var v e1).2.2.1⟩
theorem ahP{l:jw}{i}{f}(h:se l i f){s}{v:Va}(hv:fp f s=some v):bq l.enums (uQ f s)=true:=by unfold uQ;rw[hv];exact(h.var v (nn hv).1).1
theorem ady(env)(q:Pl)(h:q.names.length=1)(v):dQ q.names [v] env=zM (aD q) v env:=by
 unfold aD;match q.names,h with
 |[s],_=>rfl
theorem apr{l:jw}(h:mC l){at_:Int}(hv:rH l at_=true){rec:QJ}{ok:Ok3}(yY:amp l at_ rec ok){m:List cW}(hm:Fit l at_ m){pre r:List Pl}{q:Pl}(he:(ad l at_).eqs=pre++q::r){s:Ss}{D:List (List UInt8)}
 (hP:F9 l.enums (ad l at_) s.env D) (hD:zi (ad l at_) pre D) (hth:Fit l at_ s.th) (ho:bK s.env q.on=true):
 RB l rec ok (ad l at_) m q s/\((yq l rec (ad l at_) m q s).2=0->F9 l.enums (ad l at_) (yq l rec (ad l at_) m q s).1.env (q.names++D)/\Fit l at_ (yq l rec (ad l at_) m q s).1.th):=by
 obtain⟨h0,h1⟩:=mI hv;obtain⟨i,hi,hf⟩:=jY h0 h1;have hG:=h.Cj i _ hf;have hq:q∈(ad l at_).eqs:=by rw[he];simp
 have hQ:=hG.eq q hq;have zK:=aaq hG hq;obtain⟨v0,hv0,_⟩:=hQ.nm _ (tq hQ.ne);have hrt:=ahP hG hv0;have hd:∀x∈fF q,x∈D:=λx hx=>(hD x).2 (by
  have:=hG.ord pre.length q (by rw[he];simp) x hx;rwa[show(ad l at_).eqs.take pre.length=pre by rw[he];simp]at this)
 have az6:∀c∈q.on,c.1∈D:=λc hc=>hd _ (IE hc (hQ.on c hc).1);have BO:=hG.once;rw[he,qA]at BO;obtain⟨p1,p2,p3⟩:=List.pairwise_append.1 BO;have amq:dN (q::r)=q.names++dN r:=rfl;rw[amq]at p2 p3;obtain⟨p4,p5,p6⟩:=List.pairwise_append.1 p2;have ZW:∀x∈q.names,x∉D:=λx hx zX=>by
  rcases(hD x).1 zX with zX|zX
  ·obtain⟨d,hd1,hd2⟩:=List.mem_map.1 zX;exact hG.awy x (zf hq hx) d hd1 hd2
  ·exact p3 x zX x (List.mem_append.2 (.inl hx)) rfl
 have hmm:=hm.mem h hv;have htm:=hth.mem h hv;have bw:0<q.names.length:=List.length_pos_iff.2 hQ.ne;have ahj:=λ(vs:List (List Int)) (hl:vs.length=q.names.length) hr=>hP.add hG.uniq (vs:=vs) p4 hl hr ZW hQ.nm az6 ho;rcases hQ.body with⟨hl,hk⟩|hk
 ·have h7:q.kind≠7:=by cases hk<;>omega
  obtain⟨g1,g2⟩:=aam (m:=m) hP hQ hrt hd ho (λh5=>apq (h.names at_) hm hq (by simp[gY,h5];omega)) hk;have e1:RB l rec ok (ad l at_) m q s↔(0<q.names.length/\(aD q).length<=1000/\mD m/\mD s.th/\q.names.length=1/\aU (ad l at_) s.env q):=by unfold RB;rw[if_neg h7]
  have e2:yq l rec (ad l at_) m q s=(⟨zM (aD q) (aM (ad l at_) m s.env q).1 s.env,s.th⟩,(aM (ad l at_) m s.env q).2):=by unfold yq;rw[if_neg h7]
  rw[e1,e2];refine⟨⟨bw,zK.1,hmm,htm,hl,g1⟩,λhz=>⟨?_,hth⟩⟩;have:=ahj [(aM (ad l at_) m s.env q).1] (by simp[hl]) (λj x v hx hv=>by
   have hj:j=0:=by
    rcases j with _|j
    ·rfl
    ·simp at hv
   subst hj;simp at hv;subst hv;have:x=aD q:=by unfold aD;rw[List.getD_eq_getElem?_getD,hx];rfl
   rw[this];exact g2 hz)
  rwa[ady _ _ hl]at this
 ·have hcq:bk at_ q=true:=ml.2 ⟨hk.kind,bw,hk.node.1,by have:=hk.node.2;omega⟩;have hvn:=aap hv hq hcq;have hev:q.reset=true->RI l.enums tB (aG s.env (q.ev,q.en)):=λhr=>zg hP (hk.every hr) (λhn=>hd _ (Wq hr hn)) ho;have j9:Fit l q.node (oM l m s.env q):=by
   unfold oM;split
   ·exact Fit.start h hvn
   ·exact hm.under h h0 h1 hq hcq
  have XP:Ae l.enums (ad l q.node).ins (q.args.map (aG s.env)):=by
   refine⟨by rw[List.length_map];exact hk.ins,λj x y hx hy=> ?_⟩;rw[List.getElem?_map]at hy;cases ha:q.args[j]? with
   |none=>rw[ha]at hy;simp at hy
   |some a=>
    rw[ha]at hy;simp at hy;subst hy;exact zg hP (hk.arg j a x ha hx) (λhn=>hd _ (mem_reads (by rw[hk.kind];decide) (List.mem_of_getElem? ha) hn)) ho
  obtain⟨g1,g2⟩:=yY q hq hcq _ _ j9 XP;have e1:RB l rec ok (ad l at_) m q s↔(0<q.names.length/\(aD q).length<=1000/\mD m/\mD s.th/\q.args.length<=1000/\q.names.length<=1000/\(q.reset=true->aG s.env (q.ev,q.en)≠[]/\rH l q.node=true)/\0<=q.node/\
   ok q.node (oM l m s.env q) (q.args.map (aG s.env))/\
   ((rec q.node (oM l m s.env q) (q.args.map (aG s.env))).2.2=0->(rec q.node (oM l m s.env q) (q.args.map (aG s.env))).1.length=q.names.length/\mD (rec q.node (oM l m s.env q) (q.args.map (aG s.env))).2.1)):=by
   unfold RB;rw[if_pos hk.kind]
  have e2:yq l rec (ad l at_) m q s=if(rec q.node (oM l m s.env q) (q.args.map (aG s.env))).2.2=0 then
   (⟨dQ q.names (rec q.node (oM l m s.env q) (q.args.map (aG s.env))).1 s.env,iD s.th (aD q) (rec q.node (oM l m s.env q) (q.args.map (aG s.env))).2.1⟩,0)
   else(s,(rec q.node (oM l m s.env q) (q.args.map (aG s.env))).2.2):=by
   unfold yq;rw[if_pos hk.kind]
  rw[e1,e2];generalize rec q.node (oM l m s.env q) (q.args.map (aG s.env))=R at*;refine⟨⟨bw,zK.1,hmm,htm,hQ.len.2.1,hQ.len.2.2,λhr=>⟨(hev hr).ne,hvn⟩,hk.node.1,g1,λhz=> ?_⟩,λhz=> ?_⟩
  ·obtain⟨o1,o2⟩:=g2 hz;exact⟨by rw[o1.1,hk.outs],o2.mem h hvn⟩
  ·by_cases JM:R.2.2=0
   ·rw[if_pos JM];obtain⟨o1,o2⟩:=g2 JM;refine⟨ahj R.1 (by rw[o1.1,hk.outs]) λj x v hx hv=> ?_,hth.over h h0 h1 hq hcq o2⟩;have hj:j<(ad l q.node).outs.length:=by rw[<-hk.outs];exact(List.getElem?_eq_some_iff.1 hx).1
    have oF:=List.getElem?_eq_getElem hj;rw[hk.out j x _ hx oF];exact o1.2 j _ v oF hv
   ·rw[if_neg JM]at hz;exact absurd hz JM
theorem zi.next{f}{pre}{q:Pl}{D}(h:zi f pre D):zi f (pre++[q]) (q.names++D):=λs=>by
 have e:dN (pre++[q])=dN pre++q.names:=by rw[qA];simp[dN]
 rw[List.mem_append,h s,e,List.mem_append];constructor
 ·rintro(h|h|h)
  ·exact .inr (.inr h)
  ·exact .inl h
  ·exact .inr (.inl h)
 ·rintro(h|h|h)
  ·exact .inr (.inl h)
  ·exact .inr (.inr h)
  ·exact .inl h
theorem QP{l:jw}(h:mC l){at_:Int}(hv:rH l at_=true){rec:QJ}{ok:Ok3}(yY:amp l at_ rec ok){m:List cW}(hm:Fit l at_ m):∀(r pre:List Pl) (s:Ss) (D:List (List UInt8)),(ad l at_).eqs=pre++r->
 F9 l.enums (ad l at_) s.env D->zi (ad l at_) pre D->Fit l at_ s.th->
 Oa l rec ok (ad l at_) m r s/\((fU l rec (ad l at_) m r s).2=0->(∃D',zi (ad l at_) (ad l at_).eqs D'/\F9 l.enums (ad l at_) (fU l rec (ad l at_) m r s).1.env D')/\Fit l at_ (fU l rec (ad l at_) m r s).1.th)
 |[],pre,s,D,he,hP,hD,hth=>⟨trivial,λ_=>⟨⟨D,by rw[he,List.append_nil];exact hD,hP⟩,hth⟩⟩
 |q::r,pre,s,D,he,hP,hD,hth=>by
  obtain⟨h0,h1⟩:=mI hv;obtain⟨i,hi,hf⟩:=jY h0 h1;have hG:=h.Cj i _ hf;have hq:q∈(ad l at_).eqs:=by rw[he];simp
  have hQ:=hG.eq q hq;have WM:(ad l at_).eqs=(pre++[q])++r:=by rw[he];simp
  rw[Oa,fU];cases ho:bK s.env q.on with
  |true=>
   obtain⟨g1,g2⟩:=apr h hv yY hm he hP hD hth ho;simp only[if_true];by_cases hz:(yq l rec (ad l at_) m q s).2=0
   ·rw[if_pos hz];obtain⟨k1,k2⟩:=g2 hz;obtain⟨n1,n2⟩:=QP h hv yY hm r (pre++[q]) _ _ WM k1 hD.next k2;exact⟨⟨hQ.len.1,g1,λ_=>n1⟩,n2⟩
   ·rw[if_neg hz];exact⟨⟨hQ.len.1,g1,λWN=>absurd WN hz⟩,λWN=>absurd WN hz⟩
  |false=>
   simp only[Bool.false_eq_true,if_false];have hd:∀x∈fF q,x∈D:=λx hx=>(hD x).2 (by
    have:=hG.ord pre.length q (by rw[he];simp) x hx;rwa[show(ad l at_).eqs.take pre.length=pre by rw[he];simp]at this)
   have BO:=hG.once;rw[he,qA]at BO;obtain⟨p1,p2,p3⟩:=List.pairwise_append.1 BO;have amq:dN (q::r)=q.names++dN r:=rfl;rw[amq]at p2 p3;have ZW:∀x∈q.names,x∉D:=λx hx zX=>by
    rcases(hD x).1 zX with zX|zX
    ·obtain⟨d,hd1,hd2⟩:=List.mem_map.1 zX;exact hG.awy x (zf hq hx) d hd1 hd2
    ·exact p3 x zX x (List.mem_append.2 (.inl hx)) rfl
   have:=hP.skip hG.uniq ZW hQ.nm (λc hc=>hd _ (IE hc (hQ.on c hc).1)) ho;obtain⟨n1,n2⟩:=QP h hv yY hm r (pre++[q]) s _ WM this hD.next hth;exact⟨⟨hQ.len.1,n1⟩,n2⟩
theorem K7{l:jw}(h:mC l){at_}(hv:rH l at_=true){env}{D}(hD:zi (ad l at_) (ad l at_).eqs D)(hP:F9 l.enums (ad l at_) env D):∀(r:List Pl) (th:List cW),(∀q∈r,q∈(ad l at_).eqs)->Fit l at_ th->
 wC env r th/\Fit l at_ (kQ env r th)
 |[],th,_,hth=>⟨trivial,hth⟩
 |q::r,th,hr,hth=>by
  obtain⟨h0,h1⟩:=mI hv;obtain⟨i,hi,hf⟩:=jY h0 h1;have hG:=h.Cj i _ hf;have hq:=hr q (by simp);have hQ:=hG.eq q hq;rw[wC,kQ];by_cases c:q.kind=5/\bK env q.on=true
  ·rw[if_pos c];have hva:0<q.args.length/\RI l.enums (uQ (ad l at_) (aD q)) (aG env (bg q 0)):=by
    rcases hQ.body with⟨_,hk⟩|hk
    ·cases hk with
     |fby a e1 e2 e3 e4=>
      rw[iQ (q:=q) (i:=0) (a:=a) (by rw[e2];rfl)];refine⟨by rw[e2];simp,zg hP e3 (λhn=> ?_) c.2⟩;rcases e3 with⟨e,_⟩|⟨_,v,zb,_,_⟩
      ·exact absurd e hn
      ·obtain⟨u1,u2⟩:=nn zb;rw[hD];unfold eQ at u1;rcases List.mem_append.1 u1 with u1|u1
       ·rcases List.mem_append.1 u1 with u1|u1
        ·exact .inl (List.mem_map.2 ⟨v,u1,u2⟩)
        ·exact .inr (u2▸hG.Wo v (List.mem_append.2 (.inl u1)))
       ·exact .inr (u2▸hG.Wo v (List.mem_append.2 (.inr u1)))
     |copy _ _ h|un _ _ h|bin _ _ _ _ h|ite _ _ _ h|F7 _ _ _ _ h|F8 _ _ _ h|arr h|at_ _ _ _ h|set _ _ _ h=>omega
    ·have:=hk.kind;omega
   have az7:=apo (h.names at_) hth (aaq hG hq).2 hva.2;obtain⟨n1,n2⟩:=K7 h hv hD hP r _ (λx hx=>hr x (by simp[hx])) az7;refine⟨⟨hQ.len.1,λ_=>⟨List.length_pos_iff.2 hQ.ne,hva.1,hth.mem h hv,?_⟩,n1⟩,n2⟩;have:=hva.2.len.2;unfold DN;omega
  ·rw[if_neg c];obtain⟨n1,n2⟩:=K7 h hv hD hP r th (λx hx=>hr x (by simp[hx])) hth;exact⟨⟨hQ.len.1,λc'=>absurd c' c,n1⟩,n2⟩
theorem awC{l}{i}{f:Fl}(hG:se l i f){D}(hD:zi f f.eqs D){v:Va}(hv:v∈eQ f):v.name∈D:=by
 rw[hD];unfold eQ at hv;rcases List.mem_append.1 hv with u1|u1
 ·rcases List.mem_append.1 u1 with u1|u1
  ·exact .inl (List.mem_map.2 ⟨v,u1,rfl⟩)
  ·exact .inr (hG.Wo v (List.mem_append.2 (.inl u1)))
 ·exact .inr (hG.Wo v (List.mem_append.2 (.inr u1)))
theorem Se{l:jw}(h:mC l):∀(n:Nat) (at_:Int),at_<n->rH l at_=true->∀m ins,Fit l at_ m->Ae l.enums (ad l at_).ins ins->
 jX l n at_ m ins/\((aZ l n at_ m ins).2.2=0->Ae l.enums (ad l at_).outs (aZ l n at_ m ins).1/\Fit l at_ (aZ l n at_ m ins).2.1)/\((aZ l n at_ m ins).2.2≠0->(aZ l n at_ m ins).1=[]/\(aZ l n at_ m ins).2.1=m)
 |0,at_,hn,hv,_,_,_,_=>by have:=(mI hv).1;omega
 |n+1,at_,hn,hv,m,ins,hm,XP=>by
  obtain⟨h0,h1⟩:=mI hv;obtain⟨i,hi,hf⟩:=jY h0 h1;have hG:=h.Cj i _ hf;have yY:amp l at_ (aZ l n) (jX l n):=λq hq hc m' adx zX Gk=>by have hvn:=aap hv hq hc;obtain⟨_,_,c1,c2⟩:=ml.1 hc;obtain⟨g1,g2,_⟩:=Se h n q.node (by omega) hvn m' adx zX Gk;exact⟨g1,g2⟩
  have hP0:F9 l.enums (ad l at_) ([]:kc) []:=⟨λv _ hd=>by simp at hd,λv _ hd=>by simp at hd,λv _ _=>rfl,λs hs=>by simp at hs,λv _ hd=>by simp at hd⟩;have hPi:F9 l.enums (ad l at_) (rQ (ad l at_) m ins).env ((ad l at_).ins.map (·.name)++[]):=by
   have Rx:∀v∈(ad l at_).ins,v∈eQ (ad l at_):=λv zb=>(hG.io' (.inl zb)).1;refine hP0.add hG.uniq ?_ (by rw[List.length_map];exact XP.1) (λj s v hs zb=> ?_) (λs _=>by simp) (λs hs=> ?_) (on:=[]) (λc hc=>by simp at hc) rfl
   ·have hu:=hG.uniq;unfold eQ at hu;rw[List.append_assoc]at hu;exact List.pairwise_map.2 (List.pairwise_append.1 hu).1
   ·rw[List.getElem?_map]at hs;cases hd:(ad l at_).ins[j]? with
    |none=>rw[hd]at hs;simp at hs
    |some d=>
     rw[hd]at hs;simp at hs;subst hs;have e:uQ (ad l at_) d.name=z3 d:=by unfold uQ;rw[hG.fp (Rx d (List.mem_of_getElem? hd))];rfl
     rw[e];exact XP.2 j d v hd zb
   ·obtain⟨d,hd,rfl⟩:=List.mem_map.1 hs;exact⟨d,hG.fp (Rx d hd),(hG.io' (.inl hd)).2⟩
  have hD0:zi (ad l at_) [] ((ad l at_).ins.map (·.name)++[]):=λs=>by simp[dN]
  obtain⟨g1,g2⟩:=QP h hv yY hm (ad l at_).eqs [] (rQ (ad l at_) m ins) _ rfl hPi hD0 hm;have hil:(ad l at_).ins.length=ins.length:=XP.1.symm;have iP:=hG.sz;rw[jX,aZ];unfold afn aqA;generalize fU l (aZ l n) (ad l at_) m (ad l at_).eqs (rQ (ad l at_) m ins)=R at*;by_cases hz:R.2=0
  ·obtain⟨⟨D,hD,hP⟩,hth⟩:=g2 hz;obtain⟨k1,k2⟩:=K7 h hv hD hP (ad l at_).eqs R.1.th (λq hq=>hq) hth;have ams:∀d∈(ad l at_).outs,RI l.enums (z3 d) (lP R.1.env d.name):=λd hd=>by obtain⟨e1,e2⟩:=hG.io' (.inr hd);obtain⟨x,hx,hr⟩:=hP.there d e1 (awC hG hD e1) (by rw[e2];rfl);unfold lP;rw[hx];exact hr
   rw[if_pos hz];refine⟨⟨h0,h1,hil,by omega,iP.2.2,iP.2.1,g1,λ_=>⟨k1,λd hd=> ?_⟩⟩,λ_=>⟨⟨by simp,λj x y hx hy=> ?_⟩,k2⟩,λhn=>absurd rfl hn⟩
   ·have:=(ams d hd).len.2;unfold DN;omega
   ·simp only[List.getElem?_map,hx,Option.map_some,Option.some.injEq]at hy;subst hy;exact ams x (List.mem_of_getElem? hx)
  ·rw[if_neg hz];exact⟨⟨h0,h1,hil,by omega,iP.2.2,iP.2.1,g1,λWN=>absurd WN hz⟩,λWN=>absurd WN hz,λ_=>⟨rfl,rfl⟩⟩
end Go.Proofs.YtcokmopocppmiaaGreat

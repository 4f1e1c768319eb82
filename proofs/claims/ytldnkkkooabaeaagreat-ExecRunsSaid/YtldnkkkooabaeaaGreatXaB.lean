/- Classes that are done in place: what their statements and blocks tell, and keep (26). -/
import Derived.Test.YtldnkkkooabaeaaGreatPgNd
set_option linter.all false
set_option maxRecDepth 20000
namespace Go.Proofs.YtldnkkkooabaeaaGreat
open Go.Nk
structure qg where
 kind:Int
 q:Pl
structure ZN where
 on:List gT
 body:List qg
def kS(k:Int):Int:=if k=5 then 2 else if k=7 then 4 else 1
def qG(q:Pl):qg:=⟨kS q.kind,q⟩
def BV(q:Pl):qg:=⟨3,q⟩
def wz(q:Pl):Bool:=q.kind==5
def lg(f:Fl):List qg:=f.eqs.map qG++(f.eqs.filter wz).map BV
def kI(on:List gT)(s:qg):qg:=⟨s.kind,{s.q with on:=on}⟩
def Uz(G:List ZN)(s:qg):List ZN:=
 match G.getLast? with
 |some b=>if b.on=s.q.on then G.dropLast++[⟨b.on,b.body++[kI [] s]⟩]else G++[⟨s.q.on,[kI [] s]⟩]
 |none=>[⟨s.q.on,[kI [] s]⟩]
def qy(l:List qg):List ZN:=l.foldl Uz []
abbrev FQ:=Int->B3->aP->aP->(aP×aP)×Int
def iO(r:(aP×aP)×Int)(f:aP->aP->(aP×aP)×Int):(aP×aP)×Int:=if r.2=0 then f r.1.1 r.1.2 else r
def dZ(st:List cG)(ah:B3)(K:aP):aP:=st.foldl (λK c=>jR (ah++c.path) c.dK K) K
def dF(ah:B3)(q:Pl):B3:=ah++aw q++[47]
def va(l:cT)(ah:B3)(q:Pl)(K env:aP):aP:=if q.reset/\aZ env (q.ev,q.en)≠0 then dZ (aQ l q.node) (dF ah q) K else K
def FM(l:cT)(q:Pl)(env:aP):aP:=bu ((ad l q.node).ins.map (·.name)) (q.args.map (aE env)) []
def pW(l:cT)(rec:FQ)(ah:B3)(q:Pl)(K env:aP):(aP×aP)×Int:=
 if(rec q.node (dF ah q) (va l ah q K env) (FM l q env)).2=0 then
  (((rec q.node (dF ah q) (va l ah q K env) (FM l q env)).1.1,bu q.names ((ad l q.node).outs.map λd=>dT (rec q.node (dF ah q) (va l ah q K env) (FM l q env)).1.2 d.name) env),0)
 else(((rec q.node (dF ah q) (va l ah q K env) (FM l q env)).1.1,env),(rec q.node (dF ah q) (va l ah q K env) (FM l q env)).2)
def wK(l:cT)(rec:FQ)(at_:Int)(ah:B3)(s:qg)(K env:aP):(aP×aP)×Int:=
 if s.kind=2 then((K,jR (aw s.q) (dT K (ah++aw s.q)) env),0)
 else if s.kind=3 then((jR (ah++aw s.q) (aE env (br s.q 0)) K,env),0)
 else if s.kind=4 then pW l rec ah s.q K env
 else((K,jR (aw s.q) (aN (ad l at_) [] env s.q).1 env),(aN (ad l at_) [] env s.q).2)
def uA(l:cT)(rec:FQ)(at_:Int)(ah:B3):List qg->aP->aP->(aP×aP)×Int
 |[],K,env=>((K,env),0)
 |s::r,K,env=>iO (wK l rec at_ ah s K env) (uA l rec at_ ah r)
def lr(l:cT)(rec:FQ)(at_:Int)(ah:B3):List ZN->aP->aP->(aP×aP)×Int
 |[],K,env=>((K,env),0)
 |b::r,K,env=>if bn env b.on then iO (uA l rec at_ ah b.body K env) (lr l rec at_ ah r)else lr l rec at_ ah r K env
def aX(l:cT):Nat->FQ
 |0=>λ_ _ K env=>((K,env),0)
 |n+1=>λat_ ah K env=>lr l (aX l n) at_ ah (qy (lg (ad l at_))) K env
def mV(l:cT)(rec:FQ)(at_:Int)(ah:B3):List qg->aP->aP->(aP×aP)×Int
 |[],K,env=>((K,env),0)
 |s::r,K,env=>if bn env s.q.on then iO (wK l rec at_ ah s K env) (mV l rec at_ ah r)else mV l rec at_ ah r K env
abbrev NF:=Int->B3->aP->aP->Prop
def QR(l:cT)(rec:FQ)(ok:NF)(ah:B3)(q:Pl)(K env:aP):Prop:=
 q.args.length<=1000/\q.names.length<=1000/\(q.reset=true->aE env (q.ev,q.en)≠[])/\0<=q.node/\q.node<l.fs.length/\kE (aQ l q.node)/\
  q.args.length=(ad l q.node).ins.length/\q.names.length=(ad l q.node).outs.length/\ok q.node (dF ah q) (va l ah q K env) (FM l q env)
def Uy(l:cT)(rec:FQ)(ok:NF)(at_:Int)(ah:B3)(s:qg)(K env:aP):Prop:=
 0<s.q.names.length/\(aw s.q).length<=1000/\
 (if s.kind=2 then True
 else if s.kind=3 then 0<s.q.args.length/\B4 (aE env (br s.q 0))
 else if s.kind=4 then QR l rec ok ah s.q K env
 else s.q.kind≠5/\s.q.kind≠7/\aW (ad l at_) env s.q)
def xV(l:cT)(rec:FQ)(ok:NF)(at_:Int)(ah:B3):List qg->aP->aP->Prop
 |[],_,_=>True
 |s::r,K,env=>Uy l rec ok at_ ah s K env/\((wK l rec at_ ah s K env).2=0->xV l rec ok at_ ah r (wK l rec at_ ah s K env).1.1 (wK l rec at_ ah s K env).1.2)
def kc(l:cT)(rec:FQ)(ok:NF)(at_:Int)(ah:B3):List ZN->aP->aP->Prop
 |[],_,_=>True
 |b::r,K,env=>b.on.length<=1000/\if bn env b.on then xV l rec ok at_ ah b.body K env/\((uA l rec at_ ah b.body K env).2=0->kc l rec ok at_ ah r (uA l rec at_ ah b.body K env).1.1 (uA l rec at_ ah b.body K env).1.2)else kc l rec ok at_ ah r K env
def dL(l:cT):Nat->NF
 |0=>λ_ _ _ _=>False
 |n+1=>λat_ ah K env=>0<=at_/\at_<l.fs.length/\ah.length<=(20-n)*1001/\n<=20/\kc l (aX l n) (dL l n) at_ ah (qy (lg (ad l at_))) K env
def lu(l:cT)(rec:FQ)(ok:NF)(at_:Int)(ah:B3):List qg->aP->aP->Prop
 |[],_,_=>True
 |s::r,K,env=>s.q.on.length<=1000/\if bn env s.q.on then Uy l rec ok at_ ah s K env/\((wK l rec at_ ah s K env).2=0->lu l rec ok at_ ah r (wK l rec at_ ah s K env).1.1 (wK l rec at_ ah s K env).1.2)else lu l rec ok at_ ah r K env
section
variable {l:cT} {rec:FQ} {ok:NF} {at_:Int} {ah:B3}
theorem aaQ(on:List gT)(s:qg)(K env:aP):wK l rec at_ ah (kI on s) K env=wK l rec at_ ah s K env:=rfl
theorem aC0(on:List gT)(s:qg)(K env:aP):Uy l rec ok at_ ah (kI on s) K env=Uy l rec ok at_ ah s K env:=rfl
theorem mW(r)(f g):iO (iO r f) g=iO r λK e=>iO (f K e) g:=by unfold iO;grind
theorem anQ(a b):∀K env,uA l rec at_ ah (a++b) K env=iO (uA l rec at_ ah a K env) (uA l rec at_ ah b):=by
 induction a with
 |nil=>intro K env;rfl
 |cons s a ih=>
  intro K env;simp only[Cr,uA];rw[mW];congr 1;funext K e;exact ih K e
theorem aeY(a b):∀K env,xV l rec ok at_ ah (a++b) K env↔xV l rec ok at_ ah a K env/\((uA l rec at_ ah a K env).2=0->xV l rec ok at_ ah b (uA l rec at_ ah a K env).1.1 (uA l rec at_ ah a K env).1.2):=by
 induction a with
 |nil=>intro K env;simp[xV,uA]
 |cons s a ih=>
  intro K env;simp only[Cr,xV,uA,iO];grind
theorem IU(a b):∀K env,lr l rec at_ ah (a++b) K env=iO (lr l rec at_ ah a K env) (lr l rec at_ ah b):=by
 induction a with
 |nil=>intro K env;rfl
 |cons s a ih=>
  intro K env;simp only[Cr,lr];split
  .rw[mW];congr 1;funext K e;exact ih K e
  simp_all
theorem ak6(a b):∀K env,kc l rec ok at_ ah (a++b) K env↔kc l rec ok at_ ah a K env/\((lr l rec at_ ah a K env).2=0->kc l rec ok at_ ah b (lr l rec at_ ah a K env).1.1 (lr l rec at_ ah a K env).1.2):=by
 induction a with
 |nil=>intro K env;simp[kc,lr]
 |cons s a ih=>
  intro K env;simp only[Cr,kc,lr];cases bn env s.on
  .grind
  .simp only[Bp,iO];grind
def VE(on:List gT)(s:qg):Prop:=∀c∈on,c.1∉s.q.names
theorem ajR{on}{s:qg}(I:VE on s)(hn:0<s.q.names.length)(K env):bn (wK l rec at_ ah s K env).1.2 on=bn env on:=by
 have h0:=uS (by intro e;rw[e]at hn;simp at hn);have h1:∀(v:Ba),bn (jR (aw s.q) v env) on=bn env on:=λv=>wN λc hc=>by rw[mX,ba (λe:c.1=aw s.q=>I c hc (by simp_all))]
 unfold wK;split
 .exact h1 _
 .split
  .rfl
  .split
   .unfold pW;split
    .exact wN λc hc=>lS (I c hc)
    .rfl
   .exact h1 _
theorem ak7{on}:∀(b:List qg),(∀s∈b,VE on s/\0<s.q.names.length)->∀K env,bn (uA l rec at_ ah b K env).1.2 on=bn env on
 |[],_,K,env=>rfl
 |s::b,h,K,env=>by
  simp only[uA,iO];have h1:=ajR (l:=l) (rec:=rec) (at_:=at_) (ah:=ah) (h s (by simp)).1 (h s (by simp)).2 K env;split
  .rw[ak7 b (λx U=>h x (by simp[U])),h1]
  .exact h1
theorem Di(G)(s:qg):Uz G s=G++[⟨s.q.on,[kI [] s]⟩]\/∃G' b,G=G'++[b]/\b.on=s.q.on/\Uz G s=G'++[⟨b.on,b.body++[kI [] s]⟩]:=by
 rcases List.eq_nil_or_concat G with rfl|⟨G',b,hG⟩
 .exact .inl rfl
 .rw[List.concat_eq_append]at hG;subst hG;unfold Uz;rw[List.getLast?_append,List.getLast?_singleton];simp only[Option.some_or,List.dropLast_concat];grind
def jI(b:ZN):Prop:=∀s∈b.body,VE b.on s/\0<s.q.names.length
theorem asy{G:List ZN}{s:qg}(hG:∀b∈G,jI b)(K env:aP):lr l rec at_ ah (Uz G s) K env=iO (lr l rec at_ ah G K env) (mV l rec at_ ah [s]):=by
 have azM:∀(K env:aP),lr l rec at_ ah [⟨s.q.on,[kI [] s]⟩] K env=mV l rec at_ ah [s] K env:=λK env=>by grind[lr,mV,uA,aaQ,iO]
 rcases Di G s with h|⟨G',b,rfl,hb,h⟩
 .rw[h,IU];congr 1;funext K e;simp_all
 .rw[h,IU,IU,mW];congr 1;funext K e;have hf:=hG b (by simp);have hh:=ak7 (l:=l) (rec:=rec) (at_:=at_) (ah:=ah) b.body (on:=b.on) (λx U=>hf x U) K e;simp only[lr,mV];rw[<-hb];cases ho:bn e b.on
  .simp[iO,ho]
  .rw[ho]at hh;simp only[Bp];rw[anQ,mW,mW];simp only[uA,aaQ];unfold iO;grind
theorem anR{G}{s:qg}(hG:∀b∈G,jI b)(I:VE s.q.on s/\0<s.q.names.length):∀b∈Uz G s,jI b:=by
 rcases Di G s with h|⟨G',b,rfl,hb,h⟩
 .rw[h];intro x U;rcases pt.1 U with U|U
  .exact hG x U
  .simp at U;subst U;intro y hy;simp at hy;subst hy;exact I
 .rw[h];intro x U;rcases pt.1 U with U|U
  .simp_all
  .simp at U;subst U;intro y hy;rcases pt.1 hy with hy|hy
   .exact hG b (by simp) y hy
   .simp at hy;subst hy;rw[hb];exact I
theorem aaS(a b):∀K env,mV l rec at_ ah (a++b) K env=iO (mV l rec at_ ah a K env) (mV l rec at_ ah b):=by
 induction a with
 |nil=>intro K env;rfl
 |cons s a ih=>
  intro K env;simp only[Cr,mV];split
  .rw[mW];congr 1;funext K e;exact ih K e
  simp_all
theorem aC1(a b):∀K env,lu l rec ok at_ ah (a++b) K env↔lu l rec ok at_ ah a K env/\((mV l rec at_ ah a K env).2=0->lu l rec ok at_ ah b (mV l rec at_ ah a K env).1.1 (mV l rec at_ ah a K env).1.2):=by
 induction a with
 |nil=>intro K env;simp[lu,mV]
 |cons s a ih=>
  intro K env;simp only[Cr,lu,mV];cases bn env s.q.on
  .grind
  .simp only[Bp,iO];grind
theorem awG{G:List ZN}{s:qg}(hG:∀b∈G,jI b)(K env:aP):kc l rec ok at_ ah (Uz G s) K env↔kc l rec ok at_ ah G K env/\((lr l rec at_ ah G K env).2=0->lu l rec ok at_ ah [s] (lr l rec at_ ah G K env).1.1 (lr l rec at_ ah G K env).1.2):=by
 have azM:∀(K env:aP),kc l rec ok at_ ah [⟨s.q.on,[kI [] s]⟩] K env↔lu l rec ok at_ ah [s] K env:=λK env=>by simp only[kc,lu,xV,aC0,Ke,Xv]
 rcases Di G s with h|⟨G',b,rfl,hb,h⟩
 .rw[h,ak6,azM]
 .rw[h,ak6,ak6,IU];have key:∀K e,kc l rec ok at_ ah [⟨b.on,b.body++[kI [] s]⟩] K e↔kc l rec ok at_ ah [b] K e/\((lr l rec at_ ah [b] K e).2=0->lu l rec ok at_ ah [s] (lr l rec at_ ah [b] K e).1.1 (lr l rec at_ ah [b] K e).1.2):=λK e=>by
   have hf:=hG b (by simp);have hh:=ak7 (l:=l) (rec:=rec) (at_:=at_) (ah:=ah) b.body (on:=b.on) (λx U=>hf x U) K e;simp only[kc,lu,lr,Ke,Xv];rw[<-hb];cases ho:bn e b.on
   .simp[ho]
   .rw[ho]at hh;simp only[Bp];rw[aeY];simp only[xV,aC0,Ke,Xv,iO];grind
  rw[key];unfold iO;grind
theorem anS(ss:List qg):∀(G:List ZN),(∀b∈G,jI b)->(∀s∈ss,VE s.q.on s/\0<s.q.names.length)->∀K env,
 lr l rec at_ ah (ss.foldl Uz G) K env=iO (lr l rec at_ ah G K env) (mV l rec at_ ah ss)/\
 (kc l rec ok at_ ah (ss.foldl Uz G) K env↔kc l rec ok at_ ah G K env/\((lr l rec at_ ah G K env).2=0->lu l rec ok at_ ah ss (lr l rec at_ ah G K env).1.1 (lr l rec at_ ah G K env).1.2)):=by
 induction ss with
 |nil=>
  grind[lu,iO,mV]
 |cons s ss ih=>
  intro G hG I K env;rw[S2];obtain⟨i1,i2⟩:=ih (Uz G s) (anR hG (I s (by simp))) (λx U=>I x (by simp[U])) K env;rw[i1,i2,asy hG,awG hG];have Y:s::ss=[s]++ss:=rfl;rw[Y];refine⟨?_,?_⟩
  .rw[mW];congr 1;funext K e;rw[aaS]
  .rw[aC1];unfold iO;grind
end
def bI(sh:Shape)(ah:B3)(K:aP):List cG:=sh.map λx=>⟨x.1,dT K (ah++x.1)⟩
def B5(sh:Shape)(ah:B3)(K K':aP):Prop:=∀p,(∀x∈sh,p≠ah++x.1)->iP p K'=iP p K
theorem ala{K K'}{p}(h:iP p K'=iP p K):dT K' p=dT K p:=by unfold dT;rw[h]
theorem anT(sh:Shape)(p ah)(K):bI (sh.map (B6 p)) ah K=(bI sh (ah++p) K).map (jh p):=by simp_all[bI,Ei,KU,B6,jh,AT]
theorem aaT(a b:Shape)(ah:B3)(K:aP):bI (a++b) ah K=bI a ah K++bI b ah K:=IN
theorem aC2{S:Pl->Shape}{q:Pl}{ah:B3}{K:aP}(hq:tj (aw q)):∀{L:List Pl},(∀x∈L,tj (aw x))->L.Pairwise (λa b=>aw a≠aw b)->q∈L->
 gL (bI (L.flatMap λq=>(S q).map (B6 (aw q++[47]))) ah K) (aw q)=bI (S q) (ah++(aw q++[47])) K
 |[],_,_,h=>by simp at h
 |x::L,hb,B,hm=>by
  rw[Cq,aaT,Dm,anT];obtain⟨p1,p2⟩:=OW.1 B;rcases NO.1 hm with rfl|hm
  .rw[Lv];have:gL (bI (L.flatMap λq=>(S q).map (B6 (aw q++[47]))) ah K) (aw q)=[]:=by refine nM λc hc=>?_;obtain⟨y,hy,rfl⟩:=It.1 hc;obtain⟨z,hz,KZ⟩:=Eg.1 hy;obtain⟨w,hw,rfl⟩:=It.1 KZ;exact Dn hq (hb z (by simp[hz])) (p1 z hz) ⟨w.1,_⟩ rfl
   simp_all
  .have:gL ((bI (S x) (ah++(aw x++[47])) K).map (jh (aw x++[47]))) (aw q)=[]:=by refine nM λc hc=>?_;obtain⟨w,_,rfl⟩:=It.1 hc;exact Dn hq (hb x (by simp)) (λh=>p1 q hm h.symm) w rfl
   rw[this,Bz];exact aC2 hq (λy hy=>hb y (by simp[hy])) p2 hm
theorem aeZ{l:cT}{n:Nat}{at_:Int}(hN:nJ (ad l at_)){q:Pl}(hq:q∈(ad l at_).eqs)(hc:bt at_ q=true)(ah:B3)(K:aP):
 gL (bI (aK l (n+1) at_) ah K) (aw q)=bI (aK l n q.node) (dF ah q) K:=by
 simp only[aK];rw[aaT,Dm];have:gL (bI (((ad l at_).eqs.filter gF).map (λq=>(aw q,uD (ad l at_) (aw q)))) ah K) (aw q)=[]:=by refine nM λc hc=>?_;obtain⟨y,hy,rfl⟩:=It.1 hc;obtain⟨z,hz,rfl⟩:=It.1 hy;exact az3 (hN.bar z (PC.1 hz).1)
 rw[this,Bz,aC2 (S:=λq=>aK l n q.node) (hN.bar q hq) (λx U=>hN.bar x (PC.1 U).1) (hN.one.filter _) (PC.2 ⟨hq,hc⟩)];unfold dF;simp_all
theorem alf{ah}{K}{r}:∀{sh:Shape},(∃x∈sh,x.1=r)->vf (bI sh ah K) r=some (dT K (ah++r))
 |[],h=>by simp_all
 |x::sh,h=>by
  have e:bI (x::sh) ah K=⟨x.1,dT K (ah++x.1)⟩::bI sh ah K:=rfl;rw[e,vf];by_cases c:x.1=r
  .simp_all
  .rw[ba c];obtain⟨y,hy,h⟩:=h;rcases NO.1 hy with rfl|hy
   .simp_all
   .exact alf ⟨y,hy,h⟩
theorem aaU{ah}{K}{r}:∀{sh:Shape},(∀x∈sh,x.1≠r)->vf (bI sh ah K) r=none
 |[],_=>rfl
 |x::sh,h=>by have e:bI (x::sh) ah K=⟨x.1,dT K (ah++x.1)⟩::bI sh ah K:=rfl;rw[e,vf,ba (h x (by simp))];exact aaU λy hy=>h y (by simp[hy])
theorem anU(sh:Shape)(ah s)(v)(K):yL (bI sh ah K) s v=bI sh ah (jR (ah++s) v K):=by unfold yL turn bI;rw[Ei];refine KU λx _=>?_;simp only[Function.comp,Ta,UF,dT,mX];by_cases c:x.1=s<;>simp_all
theorem ajS{sh sq:Shape}{ah nm}{K K'}(ho:B5 sq (ah++nm++[47]) K K'):mY (bI sh ah K) nm (bI sq (ah++nm++[47]) K')=bI sh ah K':=by
 unfold mY turn;have Y:bI sh ah K=sh.map λx=>(⟨x.1,dT K (ah++x.1)⟩:cG):=rfl;rw[Y,Ei];refine KU λx _=>?_;simp only[Function.comp,Ta,VF];have Xl:(∀y∈sq,x.1≠nm++[47]++y.1)->dT K (ah++x.1)=dT K' (ah++x.1):=λhh=>(ala (ho _ λy hy e=>hh y hy (by
  simp_all))).symm
 cases B:xW x.1 (under nm)with
 |false=>
  simp only[C4,AN,Bv];grind[aaW]
 |true=>
  have ec:=IV B;have T0:TY x.1 (under nm)=x.1.drop (nm.length+1):=by unfold TY;rw[B,gr rfl];simp[under]
  rw[T0];by_cases c:∃y∈sq,y.1=x.1.drop (nm.length+1)
  .have e:=alf (ah:=ah++nm++[47]) (K:=K') c;unfold UG D7;grind
  .have c2:∀y∈sq,y.1≠x.1.drop (nm.length+1):=λy hy e=>c ⟨y,hy,e⟩;have e:=aaU (ah:=ah++nm++[47]) (K:=K') c2;unfold UG;rw[e];simp only[GI,Ma,AN,Bv];grind[List.append_cancel_left]
theorem alz{ah p}:∀{st:List cG} {K:aP},(∀c∈st,p≠ah++c.path)->iP p (dZ st ah K)=iP p K
 |[],_,_=>rfl
 |c::st,K,h=>by have e:dZ (c::st) ah K=dZ st ah (jR (ah++c.path) c.dK K):=rfl;rw[e,alz λd Z=>h d (by simp[Z]),mX,ba (h c (by simp))]
theorem alD{ah}{c:cG}:∀{st:List cG} {K:aP},c∈st->(∀d∈st,d.path=c.path->d=c)->iP (ah++c.path) (dZ st ah K)=some c.dK
 |[],_,h,_=>by simp at h
 |d::st,K,h,hu=>by
  have e:dZ (d::st) ah K=dZ st ah (jR (ah++d.path) d.dK K):=rfl;rw[e];by_cases hc:c∈st
  .exact alD hc λx U=>hu x (by simp[U])
  .have Z:c=d:=by simp_all
   rw[alz λx U he=>hc (by grind[List.append_cancel_left]),mX,Z,gr rfl]
theorem aC3{l}{n}{at_}{c}(h:c∈bh l (n+1) at_):
 (∃q∈(ad l at_).eqs,c=OX q)\/∃q∈(ad l at_).eqs,∃y∈bh l n q.node,c=jh (aw q++[47]) y:=by
 rcases pt.1 h with h|h<;>grind
theorem aC4{l}(hN:∀at_:Int,nJ (ad l at_)):∀(n:Nat) (at_:Int) (x y:cG),x∈bh l n at_->y∈bh l n at_->x.path=y.path->x=y
 |0,_,_,_,h,_,_=>by simp[bh]at h
 |n+1,at_,x,y,U,hy,e=>by
  have hb:=(hN at_).bar;rcases aC3 U with⟨q,hq,rfl⟩|⟨q,hq,x',A3,rfl⟩<;>rcases aC3 hy with⟨r,E,rfl⟩|⟨r,E,y',N5,rfl⟩
  .rw[(hN at_).uniq hq E e]
  .exact absurd e (xS (hb q hq))
  .exact absurd e.symm (xS (hb r E))
  .obtain⟨Y,e2⟩:=uQ (hb q hq) (hb r E) e;have:=(hN at_).uniq hq E Y;subst this;rw[aC4 hN n q.node x' y' A3 N5 e2]
theorem aC5{l}(hN:∀at_:Int,nJ (ad l at_))(n)(at_)(ah)(K):bI (aK l n at_) ah (dZ (bh l n at_) ah K)=bh l n at_:=by
 have e:bI (aK l n at_) ah (dZ (bh l n at_) ah K)=((aK l n at_).map (·.1)).map λp=>(⟨p,dT (dZ (bh l n at_) ah K) (ah++p)⟩:cG):=by rw[Ei];rfl
 rw[e,<-pU,Ei]
 conv=>rhs;rw[<-List.map_id (bh l n at_)]
 refine KU λc hc=>?_;simp only[Function.comp,id,dT,alD hc λd Z he=>aC4 hN n at_ d c Z hc he,S1]
theorem aaX(l)(n)(at_)(ah)(K):B5 (aK l n at_) ah K (dZ (bh l n at_) ah K):=λp h=>alz λc hc e=>by
 have hm:c.path∈(aK l n at_).map (·.1):=by rw[<-pU];grind
 grind
theorem B5.trans{sh:Shape}{ah}{A BQ C}(h1:B5 sh ah A BQ)(h2:B5 sh ah BQ C):B5 sh ah A C:=λp h=>(h2 p h).trans (h1 p h)
theorem ajT{f}{m}{env}{q:Pl}(h:q.kind≠5):aN f m env q=aN f [] env q:=by simp only[aN,h,Bv]
def ae3(l:cT)(at_:Int)(ah:B3)(K:aP)(An:(aP×aP)×Int)(S:Bd×List cG×Int):Prop:=
 An.2=S.2.2/\(An.2=0->((ad l at_).outs.map λd=>dT An.1.2 d.name)=S.1/\bI (aK l 11 at_) ah An.1.1=S.2.1/\B5 (aK l 11 at_) ah K An.1.1)
def anV(l:cT)(n:Nat)(at_:Int):Prop:=∀q∈(ad l at_).eqs,bt at_ q=true->∀(ah:B3) (K:aP) (ins:Bd),ah.length<=(21-n)*1001->Fit l q.node (bI (aK l 11 q.node) ah K)->
 yM l.enums (ad l q.node).ins ins->dL l n q.node ah K (bu ((ad l q.node).ins.map (·.name)) ins [])/\
  ae3 l q.node ah K (aX l n q.node ah K (bu ((ad l q.node).ins.map (·.name)) ins [])) (bK l n q.node (bI (aK l 11 q.node) ah K) ins)
def ae4(l:cT):OC:=λnode m ins=>Fit l node m/\yM l.enums (ad l node).ins ins
def sameAt(ah:B3)(K0 K:aP)(q:Pl):Prop:=iP (ah++aw q) K=iP (ah++aw q) K0/\∀y,iP (dF ah q++y) K=iP (dF ah q++y) K0
theorem aC6{l}{at_}{q}(hq:q∈(ad l at_).eqs)(hf:gF q=true):(aw q,uD (ad l at_) (aw q))∈aK l 11 at_:=
 pt.2 (.inl (It.2 ⟨q,PC.2 ⟨hq,hf⟩,rfl⟩))
theorem ae5{l}{at_}(h0:0<=at_)(h1:at_<11){q:Pl}(hq:q∈(ad l at_).eqs)(hc:bt at_ q=true){y}(hy:y∈aK l 11 q.node):∃x∈aK l 11 at_,x.1=aw q++[47]++y.1:=by obtain⟨_,_,c1,c2⟩:=ji.1 hc;rw[vg l 11 10 q.node (by omega) (by omega) c1]at hy;exact⟨B6 (aw q++[47]) y,pt.2 (.inr (Eg.2 ⟨q,PC.2 ⟨hq,hc⟩,It.2 ⟨y,hy,rfl⟩⟩)),rfl⟩
theorem azN{l}(h:lh l){at_}(hv:qt l at_=true)(Jv:at_<11){n}(hn:n<=20)(xX:anV l n at_){ah:B3}(J6:ah.length<=(20-n)*1001){K K0 env}{q}(hq:q∈(ad l at_).eqs)
 (Xx:sameAt ah K0 K q) (hdo:UH l (bK l n) (ae4 l) (ad l at_) (bI (aK l 11 at_) ah K0) q ⟨env,bI (aK l 11 at_) ah K⟩):
 Uy l (aX l n) (dL l n) at_ ah (qG q) K env/\
 (wK l (aX l n) at_ ah (qG q) K env).2=(B7 l (bK l n) (ad l at_) (bI (aK l 11 at_) ah K0) q ⟨env,bI (aK l 11 at_) ah K⟩).2/\
 ((wK l (aX l n) at_ ah (qG q) K env).2=0->
   (wK l (aX l n) at_ ah (qG q) K env).1.2=(B7 l (bK l n) (ad l at_) (bI (aK l 11 at_) ah K0) q ⟨env,bI (aK l 11 at_) ah K⟩).1.env/\
   bI (aK l 11 at_) ah (wK l (aX l n) at_ ah (qG q) K env).1.1=(B7 l (bK l n) (ad l at_) (bI (aK l 11 at_) ah K0) q ⟨env,bI (aK l 11 at_) ah K⟩).1.th/\
   (∀p,(∀y,p≠dF ah q++y)->iP p (wK l (aX l n) at_ ah (qG q) K env).1.1=iP p K)/\B5 (aK l 11 at_) ah K (wK l (aX l n) at_ ah (qG q) K env).1.1):=by
 obtain⟨h0,h1⟩:=kG hv;obtain⟨i,hi,hf⟩:=iE h0 h1;have hG:=h.xP i _ hf;have hQ:=hG.eq q hq;obtain⟨d1,d2,_,_,d5⟩:=hdo;have H':(qG q).q=q:=rfl;have Q8:(qG q).kind=kS q.kind:=rfl;rcases hQ.body with⟨_,hk⟩|hC
 .have h7:q.kind≠7:=by cases hk<;>omega
  rw[ba h7]at d5;by_cases h5:q.kind=5
  .have ek:kS q.kind=2:=by rw[h5];rfl
   have Y:wK l (aX l n) at_ ah (qG q) K env=((K,jR (aw q) (dT K (ah++aw q)) env),0):=by unfold wK;simp_all
   have Zu:gF q=true:=by simp[gF,h5,d1]
   have e2:D7 (bI (aK l 11 at_) ah K0) (aw q)=dT K (ah++aw q):=by unfold D7;rw[alf ⟨_,aC6 hq Zu,rfl⟩];exact(ala Xx.1).symm
   have e3:B7 l (bK l n) (ad l at_) (bI (aK l 11 at_) ah K0) q ⟨env,bI (aK l 11 at_) ah K⟩=(⟨jR (aw q) (dT K (ah++aw q)) env,bI (aK l 11 at_) ah K⟩,0):=by simp_all[B7,ba,aN]
   rw[Y,e3];refine⟨⟨d1,d2,?_⟩,rfl,λ_=>⟨rfl,rfl,λ_ _=>rfl,λ_ _=>rfl⟩⟩;simp_all
  .have ek:kS q.kind=1:=by simp[kS,h5,h7]
   have Y:wK l (aX l n) at_ ah (qG q) K env=((K,jR (aw q) (aN (ad l at_) [] env q).1 env),(aN (ad l at_) [] env q).2):=by unfold wK;simp_all
   have e3:B7 l (bK l n) (ad l at_) (bI (aK l 11 at_) ah K0) q ⟨env,bI (aK l 11 at_) ah K⟩=(⟨jR (aw q) (aN (ad l at_) [] env q).1 env,bI (aK l 11 at_) ah K⟩,(aN (ad l at_) [] env q).2):=by unfold B7;rw[ba h7,ajT h5]
   rw[Y,e3];refine⟨⟨d1,d2,?_⟩,rfl,λ_=>⟨rfl,rfl,λ_ _=>rfl,λ_ _=>rfl⟩⟩;simp_all
 .have h7:=hC.kind;rw[gr h7]at d5;obtain⟨a1,a2,a3,a4,a5,_⟩:=d5;have hc:bt at_ q=true:=ji.2 ⟨h7,d1,hC.node.1,by have:=hC.node.2;omega⟩;have hN:=h.names;have ek:kS q.kind=4:=by rw[h7];rfl
  have Y:wK l (aX l n) at_ ah (qG q) K env=pW l (aX l n) ah q K env:=by unfold wK;simp_all
  have Ha:=B8 hv hq hc;have est:aQ l q.node=bh l 11 q.node:=by rw[aQ,gr Ha]
  have au5:bI (aK l 11 q.node) (dF ah q) (va l ah q K env)=rL l (bI (aK l 11 at_) ah K0) env q:=by
   unfold va rL;split
   .rw[est];exact aC5 hN 11 q.node _ _
   .rw[show aK l 11 at_=aK l (10+1) at_ from rfl,aeZ (hN at_) hq hc,vg l 10 11 q.node (by have:=hC.node.2;omega) (by have:=hC.node.2;omega) hC.node.1];refine KU λx _=>?_;rw[ala (Xx.2 x.1)]
  have hlen:(dF ah q).length<=(21-n)*1001:=by grind[GM,dF,AS,IS,Cd]
  obtain⟨g1,g2⟩:=xX q hq hc (dF ah q) (va l ah q K env) (q.args.map (aE env)) hlen (by rw[au5];exact a5.1) a5.2;rw[au5]at g2;have eI:bu ((ad l q.node).ins.map (·.name)) (q.args.map (aE env)) []=FM l q env:=rfl;rw[eI]at g1 g2;have azQ:B5 (aK l 11 q.node) (dF ah q) K (va l ah q K env):=by
   unfold va;split
   .rw[est];exact aaX l 11 q.node _ _
   .exactλ_ _=>rfl
  have okc:Uy l (aX l n) (dL l n) at_ ah (qG q) K env:=by refine⟨d1,d2,?_⟩;rw[Q8,ek];exact⟨a1,a2,λE=>(a3 E).1,hC.node.1,by show q.node<(l.fs.length:Int);have:=hC.node.2;omega,Fit.mem h Ha (Fit.start h Ha),hC.ins,hC.outs,g1⟩
  refine⟨okc,?_⟩;rw[Y];unfold pW B7;rw[gr h7];dsimp only;generalize aX l n q.node (dF ah q) (va l ah q K env) (FM l q env)=An at*;generalize bK l n q.node (rL l (bI (aK l 11 at_) ah K0) env q) (q.args.map (aE env))=S at*;obtain⟨s1,s2⟩:=g2;by_cases hz:An.2=0
  .obtain⟨t1,t2,t3⟩:=s2 hz;rw[gr hz,gr (s1▸hz)];have Lb:=azQ.trans t3;refine⟨rfl,λ_=>⟨by rw[t1],?_,λp B=>Lb p λx _=>B x.1,λp B=>Lb p λy hy=>?_⟩⟩;all_goals grind[ajS,ae5,dF,AT]
  simp_all
theorem alG{l:cT}(h:lh l){at_}(hv:qt l at_=true)(Jv:at_<11){n}(hn:n<=20)(xX:anV l n at_)(hR:eP l at_ (bK l n) (ae4 l)){ah:B3}(J6:ah.length<=(20-n)*1001){K0}
 (hm:Fit l at_ (bI (aK l 11 at_) ah K0)):∀(r pre:List Pl) (K env:aP) (D:BS),(ad l at_).eqs=pre++r->Bs l.enums (ad l at_) env D->vh (ad l at_) pre D->Fit l at_ (bI (aK l 11 at_) ah K)->
 (∀q∈r,sameAt ah K0 K q)->
 lu l (aX l n) (dL l n) at_ ah (r.map qG) K env/\
 (mV l (aX l n) at_ ah (r.map qG) K env).2=(ja l (bK l n) (ad l at_) (bI (aK l 11 at_) ah K0) r ⟨env,bI (aK l 11 at_) ah K⟩).2/\
 ((mV l (aX l n) at_ ah (r.map qG) K env).2=0->
   (mV l (aX l n) at_ ah (r.map qG) K env).1.2=(ja l (bK l n) (ad l at_) (bI (aK l 11 at_) ah K0) r ⟨env,bI (aK l 11 at_) ah K⟩).1.env/\
   bI (aK l 11 at_) ah (mV l (aX l n) at_ ah (r.map qG) K env).1.1=(ja l (bK l n) (ad l at_) (bI (aK l 11 at_) ah K0) r ⟨env,bI (aK l 11 at_) ah K⟩).1.th/\
   B5 (aK l 11 at_) ah K (mV l (aX l n) at_ ah (r.map qG) K env).1.1)
 |[],pre,K,env,D,he,hP,hD,Bw,I=>⟨BB,rfl,λ_=>⟨rfl,rfl,λ_ _=>rfl⟩⟩
 |q::r,pre,K,env,D,he,hP,hD,Bw,I=>by
  obtain⟨h0,h1⟩:=kG hv;obtain⟨i,hi,hf⟩:=iE h0 h1;have hG:=h.xP i _ hf;have hq:q∈(ad l at_).eqs:=by rw[he];simp
  have hQ:=hG.eq q hq;have UI:(ad l at_).eqs=(pre++[q])++r:=by rw[he];simp
  rw[p0,lu,mV,ja];have eon:(qG q).q.on=q.on:=rfl;rw[eon];cases ho:bn env q.on with
  |true=>
   obtain⟨g1,g2⟩:=ahK h hv hR hm he (s:=⟨env,bI (aK l 11 at_) ah K⟩) hP hD Bw ho;obtain⟨k1,k2,k3⟩:=azN h hv Jv hn xX J6 hq (I q (by simp)) g1;simp only[Bp];generalize hR':wK l (aX l n) at_ ah (qG q) K env=An at*;generalize B7 l (bK l n) (ad l at_) (bI (aK l 11 at_) ah K0) q ⟨env,bI (aK l 11 at_) ah K⟩=S at*;unfold iO;by_cases hz:An.2=0
   .obtain⟨t1,t2,t3,t4⟩:=k3 hz;rw[gr hz,gr (k2▸hz)];obtain⟨p1,p2⟩:=g2 (k2▸hz);obtain⟨⟨aKN,aKO⟩,s2⟩:=S;obtain⟨⟨aC7,aJX⟩,r2⟩:=An;dsimp only at t1 t2 t3 t4 p1 p2|-;subst t1 t2;have D6:∀x∈r,sameAt ah K0 aC7 x:=λx U=>by
     have hxq:x∈(ad l at_).eqs:=by simp_all
     have hb:=(h.names at_).bar;have bP:aw x≠aw q:=by have B:=(h.names at_).one;grind
     obtain⟨u1,u2⟩:=I x (by simp[U]);refine⟨?_,λy=>?_⟩<;>grind[dF,AT,List.append_cancel_left,xS,uQ]
    obtain⟨n1,n2,n3⟩:=alG h hv Jv hn xX hR J6 hm r (pre++[q]) aC7 aJX _ UI p1 hD.next p2 D6;exact⟨⟨hQ.len.1,k1,λ_=>n1⟩,n2,λKZ=>⟨(n3 KZ).1,(n3 KZ).2.1,t4.trans (n3 KZ).2.2⟩⟩
   .rw[ba hz,ba (k2▸hz)];exact⟨⟨hQ.len.1,k1,λUJ=>absurd UJ hz⟩,k2,λUJ=>absurd UJ hz⟩
  |false=>
   simp only[AN,Bv];have Z:∀x∈gA q,x∈D:=λx U=>(hD x).2 (by
    have:=hG.ord pre.length q (by rw[he];simp) x U;simp_all)
   have Ac:=hG.once;rw[he,mZ]at Ac;obtain⟨p1,p2,p3⟩:=Cz.1 Ac;have eT:dI (q::r)=q.names++dI r:=rfl;rw[eT]at p2 p3;have X4:∀x∈q.names,x∉D:=λx U wO=>by
    rcases(hD x).1 wO with wO|wO
    .obtain⟨d,Kj,Ek⟩:=It.1 wO;exact hG.vI x (pg hq U) d Kj Ek
    grind
   have:=hP.skip hG.uniq X4 hQ.nm (λc hc=>Z _ (uE hc (hQ.on c hc).1)) ho;obtain⟨n1,n2,n3⟩:=alG h hv Jv hn xX hR J6 hm r (pre++[q]) K env _ UI this hD.next Bw (λx U=>I x (by simp[U]));exact⟨⟨hQ.len.1,n1⟩,n2,n3⟩
theorem Ad{l}{at_}{rec:FQ}{ok:NF}{ah}{env}{sh:Shape}(hsh:∀q∈(ad l at_).eqs,q.kind=5->∃x∈sh,x.1=aw q)(FO:∀q∈(ad l at_).eqs,(aw q).length<=1000):∀(r:List Pl) (K:aP),(∀q∈r,q∈(ad l at_).eqs)->
 FV env r (bI sh ah K)->
 lu l rec ok at_ ah ((r.filter wz).map BV) K env/\(mV l rec at_ ah ((r.filter wz).map BV) K env).2=0/\(mV l rec at_ ah ((r.filter wz).map BV) K env).1.2=env/\
 bI sh ah (mV l rec at_ ah ((r.filter wz).map BV) K env).1.1=tU env r (bI sh ah K)/\B5 sh ah K (mV l rec at_ ah ((r.filter wz).map BV) K env).1.1
 |[],K,_,_=>⟨BB,rfl,rfl,rfl,λ_ _=>rfl⟩
 |q::r,K,hq,hk=>by
  rw[FV]at hk;obtain⟨k1,k2,k3⟩:=hk;rw[tU];by_cases c:q.kind=5
  .have hf:wz q=true:=by simp[wz,c]
   rw[Cw,hf,gr rfl,p0,lu,mV];have eon:(BV q).q.on=q.on:=rfl;rw[eon];by_cases ho:bn env q.on=true
   .rw[gr (And.intro c ho)]at k3;rw[gr (And.intro c ho),gr ho,gr ho];obtain⟨b1,b2,b3,b4⟩:=k2 ⟨c,ho⟩;have Y:wK l rec at_ ah (BV q) K env=((jR (ah++aw q) (aE env (br q 0)) K,env),0):=rfl;rw[Y];rw[anU]at k3|-;obtain⟨n1,n2,n3,n4,n5⟩:=Ad hsh FO r (jR (ah++aw q) (aE env (br q 0)) K) (λx U=>hq x (by simp[U])) k3;have et:iO ((jR (ah++aw q) (aE env (br q 0)) K,env),0) (mV l rec at_ ah ((r.filter wz).map BV))=mV l rec at_ ah ((r.filter wz).map BV) (jR (ah++aw q) (aE env (br q 0)) K) env:=rfl;rw[et];refine⟨⟨k1,⟨b1,FO q (hq q (by simp)),b2,b4⟩,λ_=>n1⟩,n2,n3,n4,λp B=>?_⟩;rw[n5 p B,mX,ba];grind
   .have KT:¬(q.kind=5/\bn env q.on=true):=λhh=>ho hh.2;rw[ba KT]at k3;rw[ba KT,ba ho,ba ho];obtain⟨n1,n2⟩:=Ad hsh FO r K (λx U=>hq x (by simp[U])) k3;exact⟨⟨k1,n1⟩,n2⟩
  .have hf:wz q=false:=by simp[wz,c]
   rw[ba (λhh=>c hh.1)]at k3|-;rw[Cw,hf,ba (by simp)];exact Ad hsh FO r K (λx U=>hq x (by simp[U])) k3
theorem anY{l:cT}{i}{f:Fl}(hG:tl l i f){ins}(FI:yM l.enums f.ins ins):
 Bs l.enums f (bu (f.ins.map (·.name)) ins []) (f.ins.map (·.name)++[])/\vh f [] (f.ins.map (·.name)++[]):=by
 have _i:Bs l.enums f ([]:aP) []:=⟨λv _ Z=>by simp at Z,λv _ Z=>by simp at Z,λv _ _=>rfl,λs I=>by simp at I,λv _ Z=>by simp at Z⟩;refine⟨?_,λs=>by simp[dI]⟩;have UK:∀v∈f.ins,v∈fu f:=λv D8=>(hG.eM (.inl D8)).1;refine _i.add hG.uniq ?_ (by rw[Pe];exact FI.1) (λj s v I D8=>?_) (λs _=>by simp) (λs I=>?_) (on:=[]) (λc hc=>by simp at hc) rfl
 .have hu:=hG.uniq;simp_all[fu,AT,MH,Cz]
 .rw[M9]at I;cases Z:f.ins[j]? with
  |none=>simp_all
  |some d=>
   rw[Z]at I;simp at I;subst I;have e:uD f d.name=z6 d:=by unfold uD;rw[hG.fO (UK d (ed Z))];rfl
   rw[e];exact FI.2 j d v Z D8
 .obtain⟨d,Z,rfl⟩:=It.1 I;exact⟨d,hG.fO (UK d Z),(hG.eM (.inl Z)).2⟩
theorem aC8{l:cT}(h:lh l)(hl:l.fs.length<=11):∀(n:Nat) (at_:Int),at_<n->n<=20->qt l at_=true->∀(ah:B3) (K:aP) (ins:Bd),ah.length<=(21-n)*1001->Fit l at_ (bI (aK l 11 at_) ah K)->
 yM l.enums (ad l at_).ins ins->dL l n at_ ah K (bu ((ad l at_).ins.map (·.name)) ins [])/\
  ae3 l at_ ah K (aX l n at_ ah K (bu ((ad l at_).ins.map (·.name)) ins [])) (bK l n at_ (bI (aK l 11 at_) ah K) ins)
 |0,at_,hn,_,hv,_,_,_,_,_,_=>by have:=(kG hv).1;omega
 |n+1,at_,hn,aIu,hv,ah,K,ins,J6,hm,FI=>by
  obtain⟨h0,h1⟩:=kG hv;obtain⟨i,hi,hf⟩:=iE h0 h1;have hG:=h.xP i _ hf;have Jv:at_<11:=by omega
  have xX:anV l n at_:=λq hq hc ah K ins h1 h2 h3=>by have Ha:=B8 hv hq hc;obtain⟨_,_,c1,c2⟩:=ji.1 hc;exact aC8 h hl n q.node (by omega) (by omega) Ha ah K ins h1 h2 h3
  have hR:eP l at_ (bK l n) (ae4 l):=λq hq hc m' X5 wO Lx=>by have Ha:=B8 hv hq hc;obtain⟨_,_,c1,c2⟩:=ji.1 hc;obtain⟨g1,g2,_⟩:=Ly h n q.node (by omega) Ha m' X5 wO Lx;exact⟨⟨wO,Lx⟩,g2⟩
  obtain⟨hP,vK⟩:=anY hG FI;obtain⟨g1,g2,g3⟩:=alG h hv Jv (by omega) xX hR (by omega) hm (ad l at_).eqs [] K (bu ((ad l at_).ins.map (·.name)) ins []) _ rfl hP vK hm (λq _=>⟨rfl,λ_=>rfl⟩);obtain⟨r1,r2⟩:=IW h hv hR hm (ad l at_).eqs [] ⟨bu ((ad l at_).ins.map (·.name)) ins [],bI (aK l 11 at_) ah K⟩ _ rfl hP vK hm;have VJ:∀q∈(ad l at_).eqs,(∀c∈q.on,c.1∉q.names)/\0<q.names.length:=λq hq=>by
   refine⟨λc hc wO=>?_,OT.2 (hG.eq q hq).ne⟩;obtain⟨k,hk⟩:=adm hq;have ZO:=hG.ord k q hk c.1 (uE hc ((hG.eq q hq).on c hc).1);rcases ZO with ZO|ZO
   .obtain⟨d,Kj,Ek⟩:=It.1 ZO;exact hG.vI c.1 (pg hq wO) d Kj Ek
   .have Ac:=hG.once;have awH:(ad l at_).eqs=(ad l at_).eqs.take k++(ad l at_).eqs.drop k:=(List.take_append_drop _ _).symm;rw[awH,mZ]at Ac;have NG:q∈(ad l at_).eqs.drop k:=by grind
    exact(Cz.1 Ac).2.2 c.1 ZO c.1 (pg NG wO) rfl
  have hss:∀s∈lg (ad l at_),VE s.q.on s/\0<s.q.names.length:=λs I=>by
   rcases pt.1 I with I|I
   .obtain⟨q,hq,rfl⟩:=It.1 I;exact VJ q hq
   .obtain⟨q,hq,rfl⟩:=It.1 I;exact VJ q (PC.1 hq).1
  have SQ:=λok=>anS (l:=l) (rec:=aX l n) (ok:=ok) (at_:=at_) (ah:=ah) (lg (ad l at_)) [] (by simp) hss K (bu ((ad l at_).ins.map (·.name)) ins []);obtain⟨b1,b2⟩:=SQ (dL l n);have Y:aX l (n+1) at_ ah K (bu ((ad l at_).ins.map (·.name)) ins [])=mV l (aX l n) at_ ah (lg (ad l at_)) K (bu ((ad l at_).ins.map (·.name)) ins []):=b1;have e2:kc l (aX l n) (dL l n) at_ ah (qy (lg (ad l at_))) K (bu ((ad l at_).ins.map (·.name)) ins [])↔lu l (aX l n) (dL l n) at_ ah (lg (ad l at_)) K (bu ((ad l at_).ins.map (·.name)) ins []):=by refine b2.trans ?_;simp[kc,lr]
  have aJY:dL l (n+1) at_ ah K (bu ((ad l at_).ins.map (·.name)) ins [])=(0<=at_/\at_<l.fs.length/\ah.length<=(20-n)*1001/\n<=20/\kc l (aX l n) (dL l n) at_ ah (qy (lg (ad l at_))) K (bu ((ad l at_).ins.map (·.name)) ins [])):=rfl;rw[Y,aJY,e2,lg,aaS,aC1,bK];unfold _Y ae3;have es0:yN (ad l at_) (bI (aK l 11 at_) ah K) ins=⟨bu ((ad l at_).ins.map (·.name)) ins [],bI (aK l 11 at_) ah K⟩:=rfl;rw[es0];generalize mV l (aX l n) at_ ah ((ad l at_).eqs.map qG) K (bu ((ad l at_).ins.map (·.name)) ins [])=An at*;generalize ja l (bK l n) (ad l at_) (bI (aK l 11 at_) ah K) (ad l at_).eqs ⟨bu ((ad l at_).ins.map (·.name)) ins [],bI (aK l 11 at_) ah K⟩=Q at*;by_cases hz:An.2=0
  .have KZ:Q.2=0:=g2▸hz;obtain⟨t1,t2,t3⟩:=g3 hz;obtain⟨⟨D,hD,hPD⟩,Bw⟩:=r2 KZ;obtain⟨k1,_⟩:=Dp h hv hD hPD (ad l at_).eqs Q.1.th (λq hq=>hq) Bw;rw[<-t2]at k1;rw[<-t1]at k1;obtain⟨w1,w2,w3,w4,aJZ⟩:=Ad (l:=l) (at_:=at_) (rec:=aX l n) (ok:=dL l n) (ah:=ah) (env:=An.1.2) (sh:=aK l 11 at_) (λq hq h5=>⟨_,aC6 hq (by simp[gF,h5,(VJ q hq).2]),rfl⟩)
    (λq hq=>(Ra hG hq).1) (ad l at_).eqs An.1.1 (λq hq=>hq) k1
   have et:iO An (mV l (aX l n) at_ ah (((ad l at_).eqs.filter wz).map BV))=mV l (aX l n) at_ ah (((ad l at_).eqs.filter wz).map BV) An.1.1 An.1.2:=by unfold iO;simp_all
   rw[et,gr KZ];refine⟨⟨h0,h1,by omega,by omega,g1,λ_=>w1⟩,w2,λ_=>⟨?_,?_,t3.trans aJZ⟩⟩;all_goals simp_all
  .have KZ:Q.2≠0:=g2▸hz;have et:iO An (mV l (aX l n) at_ ah (((ad l at_).eqs.filter wz).map BV))=An:=by unfold iO;simp_all
   grind
end Go.Proofs.YtldnkkkooabaeaaGreat

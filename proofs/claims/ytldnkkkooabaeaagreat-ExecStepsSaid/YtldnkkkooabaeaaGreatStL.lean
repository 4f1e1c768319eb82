/- Taking expressions apart: what is emitted. -/
import Derived.Test.YtldnkkkooabaeaaGreatStQ
set_option linter.all false
set_option maxRecDepth 20000
namespace Go.Proofs.YtldnkkkooabaeaaGreat
open Go.Nk
structure Lu(en:List En)(first:B3)(s t:Em)(vs:List Va)(qs:List Pl):Prop where
 ev:t.vs=s.vs++vs
 eq:t.qs=s.qs++qs
 nm:dI qs=vs.map (·.name)
 ix:vs.map (·.name)=(List.range vs.length).map λk:Nat=>cJ first (s.R+1+k)
 R:t.R=s.R+vs.length
 ln:qs.length=vs.length
 ty:∀v∈vs,bg en (z6 v)=true
theorem Lu.refl(en)(first)(s:Em):Lu en first s s [] []:=⟨by simp,by simp,rfl,rfl,by simp,rfl,λv hv=>by simp at hv⟩
theorem Lu.trans{en}{first}{s t u:Em}{vs Mg}{qs g8}(h:Lu en first s t vs qs)(k:Lu en first t u Mg g8):Lu en first s u (vs++Mg) (qs++g8):=by
 refine⟨by rw[k.ev,h.ev,AT],by rw[k.eq,h.eq,AT],by rw[mZ,h.nm,k.nm,IN],?_,by rw[k.R,h.R];simp;omega,by rw[AS,AS,h.ln,k.ln],λv hv=>?_⟩
 .rw[IN,h.ix,k.ix,AS,List.range_add,IN,Ei,h.R];congr 1;refine KU λa _=>?_;grind
 .rcases pt.1 hv with hv|hv
  .exact h.ty v hv
  .exact k.ty v hv
def Wh(first:B3)(k:Int)(t:Ty)(on:List gT):Va:=⟨cJ first k,t.k,t.e,t.n,on⟩
theorem ajb{en}{first}{q}{t}{on}{s:Em}(ht:bg en t=true):
 (lT first q [] t on s).1=cJ first (s.R+1)/\Lu en first s (lT first q [] t on s).2 [Wh first (s.R+1) t on] [{q with names:=[cJ first (s.R+1)],on:=on}]:=by
 unfold lT;rw[gr rfl];exact⟨rfl,rfl,rfl,rfl,by simp[Wh,List.range_one],rfl,rfl,λv hv=>by simp at hv;subst hv;exact ht⟩
theorem TR(first)(k):cJ first k≠[]:=by simp[cJ]
def Dc(p:fc)(i:Nat)(on:List gT)(e:Ex):Prop:=(∀c∈on,c.1≠[]/\V4 (nodeAt p i) c.1=true)/\on.length+ny e<=100
theorem aCC{e x:Ex}(h:x∈e.ar):ny x+1<=ny e:=by
 rw[Mz e];have key:∀l:List Ex,x∈l->ny x<=nz l:=by intro l;induction l<;>grind[nz,NO]
 simp_all
theorem Dc.sub{p}{i}{on}{e x:Ex}(h:Dc p i on e)(U:x∈e.ar):Dc p i on x:=⟨h.1,by have:=aCC U;have:=h.2;omega⟩
theorem Dc.snoc{p}{i}{on}{e x:Ex}(h:Dc p i on e)(U:x∈e.ar){c}(hc:c.1≠[]/\V4 (nodeAt p i) c.1=true):Dc p i (on++[c]) x:=
 ⟨λd Z=>by
  rcases pt.1 Z with Z|Z
  .exact h.1 d Z
  simp_all,by have:=aCC U;have:=h.2;simp;omega⟩
theorem arl{s}(h:qk s=true):s≠[]:=by intro e;subst e;revert h;decide
theorem TS{e:Ex}(h:fi e=true)(k:e.kind=3\/e.kind=11\/e.kind=12\/e.kind=13):e.name≠[]:=by simp_all[fi,ab,G3,gr,arl]
section
variable {p:fc} {i:Nat} {n:kY} {l:cT} {f:Fl}
theorem adX(C:Ctx p i n l f){e:Ex}(he:Ng p i e){on}{t}(hk:1<=e.kind/\e.kind<=4)(hf:ep p i e on=true)(ht:rF p i e=some t):lN l.enums f (O2 p e) t on:=by
 obtain⟨q1,q2,q3⟩:=he.self;have Hc:=fU C.node;rw[jy]at hf;rw[Ao]at ht;rw[C.en];unfold O2;by_cases c3:e.kind=3
 .rw[ba (by omega),gr c3]at ht;rw[ba (by omega),gr c3]at hf;rw[ba (by omega),gr c3];rw[Xs,Hc]at ht;obtain⟨d,h1,rfl⟩:=ht;obtain⟨m1,m2⟩:=sC h1;refine .inr ⟨TS q1 (.inl c3),varOf p i d,?_,rfl,?_⟩
  .rw[<-m2];exact C.dec d m1
  simp_all[dU,varOf]
 .rw[gr (by omega)]at ht;rw[Xs]at ht;obtain⟨⟨v,t'⟩,h1,rfl⟩:=ht;have E:=xK C.WV C.WW (λx U=>(he x U).2.2) (λx U=>(he x U).1) h1;have hv:v=[if e.kind=1\/e.kind=2 then e.n else vt p e.name]:=by
   unfold dG at h1;split at h1
   .cases h1
   .rw[gr (by omega)]at h1;rw[Xs]at h1;obtain⟨⟨m,u⟩,h2,h3⟩:=h1;simp only[Ce]at h3;rw[<-h3.1];unfold Tc at h2;by_cases c1:e.kind=1
    .simp_all
    .rw[ba c1]at h2;by_cases c2:e.kind=2
     .simp_all
     .rw[ba c2,ba (by omega)]at h2;split at h2
      .simp at h2;rw[ba (by omega),<-h2.1];rfl
      .cases h2
  rw[hv]at E;by_cases O4:e.kind=1\/e.kind=2
  .rw[gr O4]at E|-;exact .inl ⟨rfl,E⟩
  .rw[ba O4]at E|-;rw[ba c3];exact .inl ⟨rfl,E⟩
def ZK(p:fc)(i:Nat)(x:Ex)(on:List gT):Prop:=Ng p i x/\Dc p i on x/\ep p i x on=true/\∃t,rF p i x=some t
def S'(p:fc)(i:Nat)(l:cT)(f:Fl)(x:Ex):Prop:=∀(on:List gT) (first:B3) (st:Em) (t:Ty),ZK p i x on->rF p i x=some t->
 ∃vs qs,Lu l.enums first st (iR p i first x on st).2 vs qs/\((∀v∈vs,fO f v.name=some v)->lN l.enums f (iR p i first x on st).1 t on/\∀q∈qs,KP l i f q)
theorem AX(first):∀(xs:List Ex) (zS:List (Option (List gT))) (st:Em),(∀x∈xs,S' p i l f x)->zS.length=xs.length->(∀(j:Nat) (x:Ex) (on:List gT),xs[j]? =some x->zS[j]? =some (some on)->ZK p i x on)->
 ∃vs qs,Lu l.enums first st (bZ p i first xs zS st).2 vs qs/\(bZ p i first xs zS st).1.length=xs.length/\
  ((∀v∈vs,fO f v.name=some v)->(∀(j:Nat) (x:Ex) (on:List gT) (t:Ty),xs[j]? =some x->zS[j]? =some (some on)->rF p i x=some t->∃a,(bZ p i first xs zS st).1[j]? =some a/\lN l.enums f a t on)/\∀q∈qs,KP l i f q)
 |[],zS,st,_,_,_=>⟨[],[],.refl _ _ _,rfl,λ_=>⟨λj x on t h=>by simp at h,λq hq=>by simp at hq⟩⟩
 |x::xs,[],st,_,hl,_=>by simp at hl
 |x::xs,none::zS,st,U,hl,B=>by
  obtain⟨vs,qs,h1,h2,h3⟩:=AX first xs zS st (λy hy=>U y (by simp[hy])) (by simp_all) (λj y on hy ho=>B (j+1) y on (by simp_all) (by simp_all))
  grind[bZ]
 |x::xs,some on::zS,st,U,hl,B=>by
  have WE:=B 0 x on rfl rfl;obtain⟨t,ht⟩:=WE.2.2.2;obtain⟨v1,q1,a1,a2⟩:=U x (by simp) on first st t WE ht
  obtain⟨vs,qs,h1,h2,h3⟩:=AX first xs zS (iR p i first x on st).2 (λy hy=>U y (by simp[hy])) (by simp_all) (λj y on hy ho=>B (j+1) y on (by simp_all) (by simp_all))
  refine⟨v1++vs,q1++qs,by rw[bZ];exact a1.trans h1,by rw[bZ];simp[h2],λhv=>?_⟩;grind[bZ,pt]
theorem adY{e:Ex}(h:fi e=true)(on):(oq p e on).length=e.ar.length:=by grind[dW,oq,Pe]
theorem aCD(C:Ctx p i n l f){e:Ex}(he:Ng p i e){on:List gT}(hc:Dc p i on e)(hf:ep p i e on=true){t:Ty}(ht:rF p i e=some t\/(e.kind=13/\∃ts,jW p i e=some ts))(j:Nat)(x:Ex)(o:List gT)(U:e.ar[j]? =some x)(ho:(oq p e on)[j]? =some (some o)):ZK p i x o:=by
 have hm:=ed U;obtain⟨q1,q2,q3⟩:=he.self;obtain⟨s1,s2,s3,s4,s5,s6,s7⟩:=dW q1;have hk:5<=e.kind:=by
  rcases Int.lt_or_le e.kind 5 with c|c
  .exfalso;have hk:=oQ q1;have:qN e=(0,0):=by unfold qN;grind
   simp_all
  .exact c
 rw[jy,ba (by omega),ba (by omega)]at hf;have iq:∃t',rF p i x=some t':=by
  by_cases k8:e.kind=8
  .rcases ht with ht|⟨ht,_⟩
   .rw[Ao,ba (by omega),ba (by omega),gr k8]at ht;obtain⟨a,b,I⟩:=s2 (.inr (.inl k8));rw[I]at ht U;unfold oq at ho;grind
   .omega
  .have og:∃ts,jW p i e=some ts:=by
    rcases ht with ht|⟨_,ht⟩
    .rw[Ao,ba (by omega),ba (by omega),ba k8]at ht;grind
    .exact ht
   obtain⟨ts,zb⟩:=og;obtain⟨t',h1,_⟩:=(Am zb).2 j x U;simp_all
 refine⟨he.sub hm,?_,?_,iq⟩
 .unfold oq at ho;split at ho
  .cases j with
   |zero=>simp at ho
   |succ j=>
    simp only[XD,M9]at ho;cases q:(e.ar.drop 1)[j]? with
    |none=>simp_all
    |some y=>rw[q]at ho;simp at ho;subst ho;exact hc.sub hm
  .split at ho
   .rw[M9,U]at ho;simp at ho;subst ho;have:=hc.sub hm;exact⟨λc kX=>this.1 c (List.dropLast_subset _ kX),by have:=this.2;simp;omega⟩
   .split at ho
    .rename_i Gi;rw[M9]at ho;cases q:e.arms[j]? with
     |none=>simp_all
     |some y=>
      rw[q]at ho;simp at ho;subst ho;refine hc.snoc hm ⟨TS q1 (by omega),?_⟩;cases hv:V4 (nodeAt p i) e.name<;>simp_all[V4,nodeAt,p8,gr]
    .rw[M9,U]at ho;simp at ho;subst ho;exact hc.sub hm
 .unfold oq at ho;by_cases k8:e.kind=8
  .rw[gr k8]at ho hf;obtain⟨a,b,I⟩:=s2 (.inr (.inl k8));rw[I]at ho hf U;cases j with
   |zero=>simp at ho
   |succ j=>
    cases j<;>simp_all[oO,ab]
  rw[ba k8]at ho hf;by_cases T9:e.kind=11
  .rw[gr T9]at ho hf;obtain⟨a,I⟩:=s1 (.inr (.inr T9));split at hf
   .cases hf
   next row oe=>simp only[ab,GO]at hf;grind[oO]
  rw[ba T9]at ho hf;by_cases Gi:e.kind=12
  .rw[gr Gi]at ho hf;simp only[ab,GO]at hf;rw[M9]at ho;cases q:e.arms[j]? with
   |none=>grind
   |some y=>
    rw[q]at ho;simp at ho;subst ho;exact aq1 hf.2 (Tx U (by rw[M9,q];rfl))
  rw[ba Gi]at ho hf;by_cases vM:e.kind=17
  .simp_all
  rw[ba vM]at hf;rw[M9,U]at ho;simp at ho;subst ho;exact aq1 hf (Tx U (by simp_all))
end
section
variable {p:fc} {i:Nat} {n:kY} {l:cT} {f:Fl}
theorem ajc{α}{l:List α}{k}{d x:α}(h:l[k]? =some x):l.getD k d=x:=by simp_all
def hx(p:fc)(i:Nat)(l:cT)(f:Fl)(e:Ex)(on:List gT)(BZ:List yI):Prop:=BZ.length=e.ar.length/\
 ∀(j:Nat) (x:Ex) (o:List gT) (t:Ty),e.ar[j]? =some x->(oq p e on)[j]? =some (some o)->rF p i x=some t->∃a,BZ[j]? =some a/\lN l.enums f a t o
theorem hx.plain{e:Ex}{on}{BZ:List yI}(h:hx p i l f e on BZ)(k:e.kind≠8/\e.kind≠11/\e.kind≠12){ts:List Ty}(zb:jW p i e=some ts):
 BZ.length=ts.length/\∀(j:Nat) (t:Ty),ts[j]? =some t->∃a,BZ[j]? =some a/\lN l.enums f a t on:=by
 obtain⟨h1,h2⟩:=Am zb;refine⟨h.1.trans h1.symm,λj t ht=>?_⟩;have hj:j<e.ar.length:=by grind
 have U:=tx hj;obtain⟨t',g1,g2⟩:=h2 j _ U;rw[ht]at g2;injection g2 with g2;subst g2;refine h.2 j _ on t U ?_ g1;simp_all[oq,ba,M9]
def RZ(q:Pl)(nm:BS)(on:List gT):Pl:={q with names:=nm,on:=on}
theorem ajd(C:Ctx p i n l f){e:Ex}(he:Ng p i e){on}(hc:Dc p i on e)(hf:ep p i e on=true){t}(ht:rF p i e=some t)(hk:e.kind≠13){BZ}(ha:hx p i l f e on BZ){first}{R}
 (h9:e.kind=9->lN l.enums f (cJ first R,0) tB on) (nm):_a l.enums f (RZ (y8 p i first e BZ R) nm on) t:=by
 obtain⟨q1,q2,q3⟩:=he.self;obtain⟨s1,s2,s3,s4,s5,s6,s7⟩:=dW q1;have aGg:=oQ q1;have Hc:=fU C.node;rcases Int.lt_or_le e.kind 5 with c5|c5
 .have hm:y8 p i first e BZ R=Bu 1 [O2 p e]:=by unfold y8;rw[ba (by omega),ba (by omega),ba (by omega),ba (by omega),ba (by omega),ba (by omega),ba (by omega),ba (by omega),ba (by omega),ba (by omega),ba (by omega),ba (by omega)]
  rw[hm];exact .copy (O2 p e) on rfl rfl (.inl rfl) (adX C he ⟨aGg.1,by omega⟩ hf ht)
 by_cases k8:e.kind=8
 .have hm:y8 p i first e BZ R={Bu 5 (BZ.drop 1)with init:=((dG p.en (e.ar.getD 0 default)).map (·.1)).getD []}:=by simp_all[y8,ba,gr]
  obtain⟨a,b,I⟩:=s2 (.inr (.inl k8));have Uq:=ht;rw[Ao,ba (by omega),ba (by omega),gr k8,I]at Uq;split at Uq
  .rename_i c u h1 h2;split at Uq
   next h3=>injection Uq with Uq;subst Uq;simp at h1 h2;obtain⟨x,U,E⟩:=ha.2 1 b on u (by rw[I];rfl) (by unfold oq;simp_all) h2;have hl:=ha.1;rw[I]at hl;obtain⟨y,z,i4⟩:=R7 hl;rw[i4]at U;simp at U;subst U;rw[hm,i4,I];refine .Ln z rfl rfl E ?_;have yy:=xK C.WV C.WW (λx U=>(he.sub (x:=a) (by rw[I];simp) x U).2.2) (λx U=>(he.sub (x:=a) (by rw[I];simp) x U).1) (e:=a) (v:=c.1) (t:=c.2) h1;rw[C.en,<-h3];simpa[RZ,h1]using yy
   .cases Uq
  .cases Uq
 have vM:e.kind≠17:=λk=>by simp_all[Ao,ba,gr]
 have zb:∃ts,jW p i e=some ts/\(if 9<=e.kind/\e.kind<=13 then Cx p i e ts else tZ e ts)=some t:=by rw[Ao,ba (by omega),ba (by omega),ba k8,ba vM]at ht;grind
 obtain⟨ts,zb,iq⟩:=zb;obtain⟨U9,T'⟩:=Am zb;by_cases T9:e.kind=11
 .have hm:y8 p i first e BZ R=Bu 1 BZ:=by simp_all[y8,ba,gr]
  obtain⟨a,I⟩:=s1 (.inr (.inr T9));rw[gr (by omega)]at iq;unfold Cx at iq;rw[ba (by omega),ba (by omega),gr T9]at iq;split at iq
  .rename_i d Z;split at iq
   .injection iq with iq;obtain⟨t0,g1,g2⟩:=T' 0 a (by rw[I];rfl);rw[ajc g2]at iq;subst iq;obtain⟨x,U,E⟩:=ha.2 0 a on.dropLast t0 (by rw[I];rfl) (by simp_all[oq,ba,gr]) g1;have hl:=ha.1;rw[I]at hl;obtain⟨y,i4⟩:=MF.1 hl;rw[i4]at U;simp at U;subst U;rw[hm,i4];refine .copy y on.dropLast rfl rfl (.inr ?_) E;rw[jy,ba (by omega),ba (by omega),ba k8,gr T9]at hf;split at hf
    .cases hf
    next row oe=>simp only[ab,GO]at hf;exact⟨(e.name,(gH p.en (e.arms.getD 0 [])).2.1),by rw[show(RZ (Bu 1 [y]) nm on).on=on from rfl,hf.1.2];simp⟩
   .cases iq
  .cases iq
 by_cases Gi:e.kind=12
 .have hm:y8 p i first e BZ R=Bu 6 ((e.name,0)::BZ):=by simp_all[y8,ba,gr]
  rw[gr (by omega)]at iq;unfold Cx at iq;rw[ba (by omega),ba (by omega),ba (by omega),gr Gi]at iq;rw[jy,ba (by omega),ba (by omega),ba k8,ba (by omega),gr Gi]at hf;simp only[ab,GO]at hf;have oe:=hf.1.1.1;split at iq
  .rename_i d Z;rw[Hc]at Z;split at iq
   .rename_i su;injection iq with iq;simp only[ab]at su;obtain⟨m1,m2⟩:=sC Z;have UA:fO f e.name=some (varOf p i d):=by rw[<-m2];exact C.dec d m1
    have aCp:(varOf p i d).on=on:=by simp only[varOf,m2,oe];rfl
    have bP:=TS q1 (.inr (.inr (.inl Gi)));have _v:∀(j:Nat) (t':Ty),ts[j]? =some t'->t'=t:=λj t' h=>by have:=BE.1 su.1 t' (ed h);simp_all
    have FG:∀(j:Nat) (c:B3),e.arms[j]? =some c->∃a,BZ[j]? =some a/\lN l.enums f a t (on++[(e.name,vt p c)]):=λj c hcj=>by
     have hj:j<e.ar.length:=by grind
     have U:=tx hj;obtain⟨t',g1,g2⟩:=T' j _ U;have:=_v j t' g2;subst this;exact ha.2 j _ _ t' U (by simp_all[oq,ba,gr,M9]) g1
    unfold JB at su;rw[hm];by_cases iv:lF d.ty=true
    .rw[gr iv]at su;have U':e.arms=[[116,114,117,101],[102,97,108,115,101]]:=by simp_all
     have hl:=ha.1;rw[(s4 Gi).1,U']at hl;obtain⟨a,b,R8⟩:=R7 hl;obtain⟨x,U,E⟩:=FG 0 [116,114,117,101] (by simp_all);obtain⟨y,hy,tO⟩:=FG 1 [102,97,108,115,101] (by simp_all);rw[R8]at U hy;simp at U hy;subst U;subst hy;rw[R8];have v1:vt p [116,114,117,101]=1:=by simp[vt,gH]
     have v0:vt p [102,97,108,115,101]=0:=by simp[vt,gH]
     rw[v1]at E;rw[v0]at tO;have hdt:d.ty=tB:=by simpa[lF,tB]using iv
     exact .HU e.name (varOf p i d) a b rfl rfl bP UA aCp (by simp only[z6,varOf,hdt]) E tO
    .rw[ba iv]at su;split at su
     .simp_all
     rename_i hkn;have U':e.arms=(p.en.getD d.ty.e.toNat default).ct:=by simp_all
     have h3:d.ty.k=3/\d.ty.n=0:=by omega
     refine .HV e.name (varOf p i d) BZ rfl rfl bP UA aCp h3 ?_ λj a gi=>?_
     .rw[ha.1,(s4 Gi).1,U',C.en];rfl
     .have hj:j<e.arms.length:=by rw[<-(s4 Gi).1,<-ha.1];grind
      have hcj:=tx hj;obtain⟨x,U,E⟩:=FG j _ hcj;rw[gi]at U;injection U with U;subst U;have aGi:=(DP C.KF m1).1;simp only[bg,h3.1,Bp,ab,ir]at aGi;have hen:=tx (show d.ty.e.toNat<p.en.length by omega);have hct:(p.en[d.ty.e.toNat]'(by omega)).ct[j]? =some e.arms[j]:=by grind
      rw[alV C.aCh hen hct]at E;exact E
   .cases iq
  .cases iq
 obtain⟨UL,J4⟩:=ha.plain ⟨k8,T9,Gi⟩ zb;have one:∀a,e.ar=[a]->∃x t0,ts=[t0]/\BZ=[x]/\lN l.enums f x t0 on:=λa I=>by rw[I]at U9;obtain⟨t0,h0⟩:=MF.1 U9;rw[h0]at UL J4;obtain⟨x,U⟩:=MF.1 UL;obtain⟨y,hy,E⟩:=J4 0 t0 rfl;simp_all
 have two:∀a b,e.ar=[a,b]->∃x y t0 t1,ts=[t0,t1]/\BZ=[x,y]/\lN l.enums f x t0 on/\lN l.enums f y t1 on:=λa b I=>by rw[I]at U9;obtain⟨t0,t1,h0⟩:=R7 U9;rw[h0]at UL J4;obtain⟨x,y,U⟩:=R7 UL;obtain⟨x',A3,E⟩:=J4 0 t0 rfl;obtain⟨y',N5,tO⟩:=J4 1 t1 rfl;grind
 have three:∀a b c,e.ar=[a,b,c]->∃x y z t0 t1 t2,ts=[t0,t1,t2]/\BZ=[x,y,z]/\lN l.enums f x t0 on/\lN l.enums f y t1 on/\lN l.enums f z t2 on:=λa b c I=>by rw[I]at U9;obtain⟨t0,t1,t2,h0⟩:=eo U9;rw[h0]at UL J4;obtain⟨x,y,z,U⟩:=eo UL;obtain⟨x',A3,E⟩:=J4 0 t0 rfl;obtain⟨y',N5,tO⟩:=J4 1 t1 rfl;obtain⟨z',UJ,vi⟩:=J4 2 t2 rfl;rw[U]at A3 N5 UJ;simp at A3 N5 UJ;grind
 by_cases k5:e.kind=5
 .have hm:y8 p i first e BZ R={Bu 2 BZ with op:=e.op}:=by unfold y8;grind
  obtain⟨a,I⟩:=s1 (.inl k5);obtain⟨x,t0,h0,U,E⟩:=one a I;rw[ba (by omega)]at iq;unfold tZ at iq;rw[gr k5,h0]at iq;split at iq
  next h1=>injection iq with iq;rw[hm,U];refine .un x t0 rfl rfl E ?_;show xb e.op t0=(t,true);grind
  .cases iq
 by_cases k6:e.kind=6
 .have hm:y8 p i first e BZ R={Bu 3 BZ with op:=e.op}:=by unfold y8;grind
  obtain⟨a,b,I⟩:=s2 (.inl k6);obtain⟨x,y,t0,t1,h0,U,E,tO⟩:=two a b I;rw[ba (by omega)]at iq;unfold tZ at iq;rw[ba k5,gr k6,h0]at iq;split at iq
  next h1=>injection iq with iq;rw[hm,U];refine .bin x y t0 t1 rfl rfl E tO ?_;show dV e.op t0 t1=(t,true);grind
  .cases iq
 by_cases k7:e.kind=7
 .have hm:y8 p i first e BZ R=Bu 4 BZ:=by unfold y8;grind
  obtain⟨a,b,c,I⟩:=s3 (.inl k7);obtain⟨x,y,z,t0,t1,t2,h0,U,E,tO,vi⟩:=three a b c I;rw[ba (by omega)]at iq;unfold tZ at iq;rw[ba k5,ba k6,gr k7,h0]at iq;split at iq
  .rename_i h1;injection iq with iq;simp only[OF,Ca]at h1 iq;obtain⟨h1,h2⟩:=h1;subst iq;have h3:t0=tB:=by simpa[lF,tB]using h1
   rw[hm,U];exact .ite x y z rfl rfl (h3▸E) tO (h2▸vi)
  .cases iq
 by_cases J2:e.kind=14
 .have hm:y8 p i first e BZ R=Bu 8 BZ:=by unfold y8;grind
  rw[ba (by omega)]at iq;unfold tZ at iq;rw[ba k5,ba k6,ba k7,gr J2]at iq;split at iq
  .rename_i h1;injection iq with iq;have hl:=s6 J2;rw[hm];refine .arr rfl ?_ (λa ha'=>?_) ?_
   .show(BZ.length:Int)=t.n;grind
   .obtain⟨j,hj⟩:=adm (show a∈BZ from ha');have OM:j<ts.length:=by grind
    obtain⟨b,hb,E⟩:=J4 j _ (tx OM);rw[hj]at hb;injection hb with hb;subst hb;have su:ts[j]=ts.getD 0 default:=by have:=BE.1 h1.1 ts[j] (MJ OM);grind
    rw[su]at E;have hu:F6 t=ts.getD 0 default:=by rw[<-iq];unfold F6;generalize ts.getD 0 default=t0 at*;obtain⟨x1,x2,x3⟩:=t0;grind
    rw[hu];exact E
   grind
  .cases iq
 by_cases KM:e.kind=15
 .have hm:y8 p i first e BZ R=Bu 9 BZ:=by unfold y8;grind
  obtain⟨a,b,I⟩:=s2 (.inr (.inr (.inr KM)));obtain⟨x,y,t0,t1,h0,U,E,tO⟩:=two a b I;rw[ba (by omega)]at iq;unfold tZ at iq;rw[ba k5,ba k6,ba k7,ba J2,gr KM,h0]at iq;split at iq
  .rename_i h1;injection iq with iq;simp only[OF,Ca]at h1 iq;have h3:t1=tI:=by simpa[uM,tI]using h1.2
   rw[hm,U];exact .at_ x y t0 rfl rfl E h1.1 (h3▸tO) iq.symm
  .cases iq
 by_cases OJ:e.kind=16
 .have hm:y8 p i first e BZ R=Bu 10 BZ:=by unfold y8;grind
  obtain⟨a,b,c,I⟩:=s3 (.inr OJ);obtain⟨x,y,z,t0,t1,t2,h0,U,E,tO,vi⟩:=three a b c I;rw[ba (by omega)]at iq;unfold tZ at iq;rw[ba k5,ba k6,ba k7,ba J2,ba KM,h0]at iq;split at iq
  .rename_i h1;injection iq with iq;simp only[OF,Ca]at h1 iq;subst iq;have h3:t1=tI:=by simpa[uM,tI]using h1.2.1
   rw[hm,U];exact .set x y z rfl rfl E h1.1 (h3▸tO) (h1.2.2▸vi)
  .cases iq
 by_cases FK:e.kind=10
 .have hm:y8 p i first e BZ R={Bu 5 BZ with init:=zeroV ((rF p i e).getD ⟨0,0,0⟩)}:=by unfold y8;grind
  obtain⟨a,I⟩:=s1 (.inr (.inl FK));obtain⟨x,t0,h0,U,E⟩:=one a I;rw[gr (by omega)]at iq;unfold Cx at iq;rw[ba (by omega),gr FK,h0]at iq;injection iq with iq;simp only[OF]at iq;subst iq;rw[hm,U,ht];refine .Ln x rfl rfl E ?_;rw[C.en];exact auy C.aCh (adL C.node C.all C.WV C.WW e he _ ht)
 .have k9:e.kind=9:=by omega
  have hm:y8 p i first e BZ R=Bu 4 ((cJ first R,0)::BZ):=by unfold y8;grind
  obtain⟨a,b,I⟩:=s2 (.inr (.inr (.inl k9)));obtain⟨x,y,t0,t1,h0,U,E,tO⟩:=two a b I;rw[gr (by omega)]at iq;unfold Cx at iq;rw[gr k9,h0]at iq;split at iq
  next h1=>injection iq with iq;simp only[OF,Ca]at h1 iq;subst iq;rw[hm,U];exact .ite (cJ first R,0) x y rfl rfl (h9 k9) E (h1▸tO)
  .cases iq
end
section
variable {p:fc} {i:Nat} {n:kY} {l:cT} {f:Fl}
theorem aCE(C:Ctx p i n l f){e:Ex}(he:Ng p i e){on}(Jc:e.kind=13){ts}(zb:jW p i e=some ts){k}(hk:vC p e ts=some k){BZ}(ha:hx p i l f e on BZ){first}{R}{nm:BS}
 (hl:nm.length=(nodeAt p k).outs.length) (ho:∀(j:Nat) (s:B3) (d:tN),nm[j]? =some s->(nodeAt p k).outs[j]? =some d->uD f s=d.ty):av5 l i f (RZ (y8 p i first e BZ R) nm on):=by
 obtain⟨q1,q2,q3⟩:=he.self;obtain⟨s1,s2,s3,s4,s5,s6,s7⟩:=dW q1;obtain⟨c1,c2,c3,c4⟩:=Cv hk;obtain⟨U9,T'⟩:=Am zb;obtain⟨UL,J4⟩:=ha.plain ⟨by omega,by omega,by omega⟩ zb;obtain⟨m1,m2,m3⟩:=s5 Jc;obtain⟨g,hg⟩:=zd c1;rw[fU hg]at c2 c4 hl ho;obtain⟨f1,f2⟩:=C.fl k g hg;have mP:0<=jx p e.name/\jx p e.name<i:=by simp_all[p8,Int.reduceEq,Bv,ab,ir]
 have hti:∀d:tN,z6 (varOf p k d)=d.ty:=λd=>rfl;have lW:∀(r:List yI),r=BZ.take (e.ar.length-e.n.toNat)->r.length=(ad l (jx p e.name)).ins.length/\∀(j:Nat) (a:yI) (d:Va),r[j]? =some a->(ad l (jx p e.name)).ins[j]? =some d->lN l.enums f a (z6 d) on:=by
  intro r E;rw[c1,f1];have Mt:r.length=g.ins.length:=by grind
  refine⟨by grind,λj a d hj Z=>?_⟩;rw[M9]at Z;cases hdd:g.ins[j]? with
  |none=>simp_all
  |some d'=>
   rw[hdd]at Z;simp at Z;subst Z;have Ss:j<ts.length:=by grind
   obtain⟨b,hb,V'⟩:=J4 j _ (tx Ss);have gi:BZ[j]? =some a:=by grind
   rw[gi]at hb;injection hb with hb;subst hb;have hz:(d',ts[j])∈g.ins.zip ts:=by refine ed (i:=j) ?_;grind
   have:=BE.1 c4 _ hz;simp_all
 have Lb:nm.length=(ad l (jx p e.name)).outs.length:=by simp_all
 have awc:∀(j:Nat) (s:B3) (d:Va),nm[j]? =some s->(ad l (jx p e.name)).outs[j]? =some d->uD f s=z6 d:=λj s d I Z=>by grind
 have hm:∀h:e.n=1\/e.n=0,y8 p i first e BZ R=if e.n=1 then{Bu 7 (BZ.take (e.ar.length-1))with node:=jx p e.name,reset:=true,ev:=(BZ.getD (e.ar.length-1) ([],0)).1,en:=(BZ.getD (e.ar.length-1) ([],0)).2}
  else{Bu 7 BZ with node:=jx p e.name}:=λ_=>by
  unfold y8;grind
 rw[hm m3.symm];by_cases n1:e.n=1
 .rw[gr n1];obtain⟨r1,r2⟩:=lW (BZ.take (e.ar.length-1)) (by rw[n1];rfl);refine⟨rfl,mP,r1,r2,Lb,awc,λ_=>?_⟩;show lN l.enums f ((BZ.getD (e.ar.length-1) ([],0)).1,(BZ.getD (e.ar.length-1) ([],0)).2) tB on;grind[tx,ajc,tB,lF]
 .rw[ba n1];have n0:e.n=0:=by omega
  obtain⟨r1,r2⟩:=lW BZ (by rw[n0];grind);exact⟨rfl,mP,r1,r2,Lb,awc,λE=>by cases E⟩
theorem ayA{c:Prop} [Decidable c]{a b:Pl}(h:a.args.length<=1000)(k:b.args.length<=1000):(if c then a else b).args.length<=1000:=by grind
def vj(q:Pl):Prop:=(q.reset=true->q.kind=7)/\(q.init≠[]->q.kind=5)
theorem ayB{c:Prop} [Decidable c]{a b}(h:vj a)(k:vj b):vj (if c then a else b):=by grind
theorem aCF{e}{BZ}{first}{R}:vj (y8 p i first e BZ R):=by
 unfold y8;repeat' (with_reducible refine ayB ?_ ?_)
 all_goals(refine⟨λh=>?_,λh=>?_⟩<;>first|rfl|(cases h;done)|exact absurd rfl h)
theorem ZL(C:Ctx p i n l f){s}(h:V4 (nodeAt p i) s=true):∃v,fO f s=some v:=by
 rw[fU C.node]at h;unfold V4 at h;cases q:fv n s with
 |none=>simp_all
 |some d=>
  obtain⟨h1,h2⟩:=sC q;exact⟨varOf p i d,h2▸C.dec d h1⟩
theorem ad0{e:Ex}(h:fi e=true){BZ:List yI}(hl:BZ.length=e.ar.length){first}{R}:(y8 p i first e BZ R).args.length<=1000:=by
 obtain⟨s1,s2,s3,s4,s5,s6,s7⟩:=dW h;unfold y8;have Z:(BZ.drop 1).length<=BZ.length:=by simp
 have ht:(BZ.take (e.ar.length-1)).length<=BZ.length:=by simp;omega
 repeat' (with_reducible refine ayA ?_ ?_)
 all_goals(simp only[Bu,IS,Cd]at*;omega)
theorem aCG(C:Ctx p i n l f){e:Ex}(og:∀x∈e.ar,S' p i l f x)(he:Ng p i e){on}(hc:Dc p i on e)(hf:ep p i e on=true)(ht:(∃t,rF p i e=some t)\/(e.kind=13/\∃ts,jW p i e=some ts))(first)(st:Em):
 ∃vs qs BZ R,Lu l.enums first st (ng p i first e on st).2 vs qs/\(ng p i first e on st).1=y8 p i first e BZ R/\BZ.length=e.ar.length/\
  ((∀v∈vs,fO f v.name=some v)->hx p i l f e on BZ/\(e.kind=9->lN l.enums f (cJ first R,0) tB on)/\∀q∈qs,KP l i f q):=by
 obtain⟨q1,q2,q3⟩:=he.self;have arp:∀(j:Nat) (x:Ex) (o:List gT),e.ar[j]? =some x->(oq p e on)[j]? =some (some o)->ZK p i x o:=λj x o U ho=>by
  rcases ht with⟨t,ht⟩|ht
  .exact aCD C he hc hf (.inl ht) j x o U ho
  .exact aCD C he hc hf (t:=default) (.inr ht) j x o U ho
 unfold ng kz;by_cases k9:e.kind=9
 .rw[gr k9];obtain⟨Y,e2⟩:=ajb (en:=l.enums) (first:=first) (q:={Bu 5 [([],0)]with init:=[1]}) (t:=⟨2,0,0⟩) (on:=on) (s:=st) (zL _);obtain⟨vs,qs,h1,h2,h3⟩:=AX (l:=l) (f:=f) first e.ar (oq p e on) (lT first {Bu 5 [([],0)]with init:=[1]} [] ⟨2,0,0⟩ on st).2 og (adY q1 on) arp
  have Mj:(lT first {Bu 5 [([],0)]with init:=[1]} [] ⟨2,0,0⟩ on st).2.R=st.R+1:=rfl;refine⟨_,_,_,st.R+1,e2.trans h1,by rw[Mj],h2,λhv=>?_⟩;have OD:=hv (Wh first (st.R+1) ⟨2,0,0⟩ on) (by simp);have h9:lN l.enums f (cJ first (st.R+1),0) tB on:= .inr ⟨TR _ _,_,OD,rfl,rfl⟩;obtain⟨k1,k2⟩:=h3 λv D8=>hv v (pt.2 (.inr D8));refine⟨⟨h2,k1⟩,λ_=>h9,λq hq=>?_⟩;rcases pt.1 hq with hq|hq
  .simp at hq;subst hq;refine⟨by simp,λs I=>?_,λc kX=>⟨(hc.1 c kX).1,ZL C (hc.1 c kX).2⟩,⟨by have:=hc.2;have:=Sw e;grind,by simp[Bu],by simp⟩,⟨λh=>(by cases h),λ_=>rfl⟩,.inl ⟨rfl,?_⟩⟩
   .simp at I;subst I;exact⟨_,OD,rfl⟩
   .have:uD f (aw {Bu 5 [([],0)]with init:=[1],names:=[cJ first (st.R+1)],on:=on})=tB:=by unfold uD aw;simp only[OF];rw[show fO f (cJ first (st.R+1))=some (Wh first (st.R+1) ⟨2,0,0⟩ on) from OD];rfl
    rw[this];exact .Ln ([],0) rfl rfl (.inl ⟨rfl,RI.bool (.inl rfl)⟩) (RI.bool (.inr rfl))
  simp_all
 .rw[ba k9];obtain⟨vs,qs,h1,h2,h3⟩:=AX (l:=l) (f:=f) first e.ar (oq p e on) st og (adY q1 on) arp
  refine⟨vs,qs,_,st.R,h1,rfl,h2,λhv=>?_⟩;obtain⟨k1,k2⟩:=h3 hv;exact⟨⟨h2,k1⟩,λh=>absurd h k9,k2⟩
theorem amc(C:Ctx p i n l f)(e):S' p i l f e:=by
 induction e using Ex.ind with
 |h e ih=>
  intro on first st t B ht
  obtain⟨he,hc,hf,_⟩:=B;obtain⟨q1,q2,q3⟩:=he.self;rw[tu];by_cases hk:1<=e.kind/\e.kind<=4
  .rw[gr hk];exact⟨[],[],.refl _ _ _,λ_=>⟨adX C he hk hf ht,λq hq=>by simp at hq⟩⟩
  rw[ba hk];unfold fS;obtain⟨vs,qs,BZ,R,h1,h2,h3,h4⟩:=aCG C ih he hc hf (.inl ⟨t,ht⟩) first st
  have E:=adL C.node C.all C.WV C.WW e he t ht;have hto:(rF p i e).getD ⟨0,0,0⟩=t:=by rw[ht];rfl
  rw[hto];obtain⟨Y,e2⟩:=ajb (en:=l.enums) (first:=first) (q:=(ng p i first e on st).1) (t:=t) (on:=on) (s:=(ng p i first e on st).2) (by rw[C.en];exact E);generalize hu:(ng p i first e on st).2=u at*;refine⟨_,_,h1.trans e2,λhv=>?_⟩;have OD:=hv (Wh first (u.R+1) t on) (by simp);obtain⟨k1,k2,k3⟩:=h4 λv D8=>hv v (pt.2 (.inl D8));refine⟨?_,λq hq=>?_⟩
  .rw[Y];exact .inr ⟨TR _ _,_,OD,rfl,rfl⟩
  .rcases pt.1 hq with hq|hq
   .exact k3 q hq
   .simp at hq;subst hq;rw[h2];have htn:uD f (cJ first (u.R+1))=t:=by unfold uD;rw[show fO f (cJ first (u.R+1))=some (Wh first (u.R+1) t on) from OD];rfl
    refine⟨by simp,λs I=>?_,λc kX=>⟨(hc.1 c kX).1,ZL C (hc.1 c kX).2⟩,⟨by have:=hc.2;have:=Sw e;grind,ad0 q1 h3,by simp⟩,aCF,?_⟩
    .simp at I;subst I;exact⟨_,OD,rfl⟩
    .by_cases Jc:e.kind=13
     .refine .inr ?_;have Uq:=ht;rw[Ao,ba (by omega),ba (by omega),ba (by omega),ba (by omega)]at Uq;split at Uq
      .cases Uq
      rename_i ts zb;rw[gr (by omega)]at Uq;unfold Cx at Uq;rw[ba (by omega),ba (by omega),ba (by omega),ba (by omega)]at Uq;split at Uq
      .rename_i k Ih;split at Uq
       next Pa=>injection Uq with Uq;refine aCE C he Jc zb Ih k1 (nm:=[cJ first (u.R+1)]) (by simp[Pa]) λj s d I Z=>?_;grind
       .cases Uq
      .cases Uq
     .refine .inl ⟨rfl,?_⟩;have wJ:aw {y8 p i first e BZ R with names:=[cJ first (u.R+1)],on:=on}=cJ first (u.R+1):=rfl
      rw[wJ,htn];exact ajd C he hc hf ht Jc k1 k2 [cJ first (u.R+1)]
end
def Wi(l:B3):Nat:=l.foldl (λa d=>a*10+(d.toNat-48)) 0
theorem Nm{d}(h:d<10):(UInt8.ofNat (48+d)).toNat=48+d:=by rw[UInt8.toNat_ofNat'];omega
theorem ame(l)(d:UInt8):Wi (l++[d])=Wi l*10+(d.toNat-48):=by simp[Wi]
theorem KX:∀u:Nat,Wi (Lib.decDigits u)=u:=by
 intro u;induction u using Nat.strongRecOn with
 |_ u ih=>
  rw[Lib.decDigits];split
  next h=>have:=Nm h;show 0*10+((UInt8.ofNat (48+u)).toNat-48)=u;omega
  grind[ame,Nm]
def Y'(c:UInt8):Bool:=decide (48<=c.toNat)&&decide (c.toNat<=57)
theorem aje:∀u:Nat,∀c∈Lib.decDigits u,Y' c=true:=by intro u;induction u using Nat.strongRecOn<;>grind[Nat.strongRecOn,Lib.decDigits,FW,Nm,Y',pt]
theorem ars{n m}(h:Lib.itoa n=Lib.itoa m):n=m:=by
 have key:∀u v:Nat,(45:UInt8)::Lib.decDigits u≠Lib.decDigits v:=λu v e=>by have:=aje v 45 (by grind);exact absurd this (by decide)
 unfold Lib.itoa at h;by_cases h1:n<0<;>by_cases h2:m<0
 .rw[gr h1,gr h2]at h;injection h with _ h;have:=C2 Wi h;rw[KX,KX]at this;omega
 .simp_all
 .grind
 .rw[ba h1,ba h2]at h;have:=C2 Wi h;rw[KX,KX]at this;omega
theorem auN(c)(hc:Y' c=false)(h45:c≠45)(n):∀x∈Lib.itoa n,(x !=c)=true:=by
 have key:∀u:Nat,∀x∈Lib.decDigits u,(x !=c)=true:=λu x U=>by have:=aje u x U;grind
 unfold Lib.itoa;grind
theorem Nn{s:B3}(h:qk s=true):(∀c∈s,Tt c=true)/\s.length<=12:=by simp_all[qk,C0,ab,BE,ir]
theorem KY{s}(h:qk s=true):tj s/\(46:UInt8)∉s:=by
 obtain⟨h1,_⟩:=Nn h;constructor
 .intro hm;have:=h1 _ hm;revert this;decide
 .intro hm;have:=h1 _ hm;revert this;decide
theorem amf{a b r s}(ha:(46:UInt8)∉a)(hb:(46:UInt8)∉b)(h:a++[46]++r=b++[46]++s):a=b/\r=s:=by
 induction a generalizing b with
 |nil=>
  cases b<;>simp_all
 |cons x a ih=>
  cases b<;>grind
theorem aCH{a b}{k m}(ha:qk a=true)(hb:qk b=true)(h:cJ a k=cJ b m):a=b/\k=m:=by obtain⟨h1,h2⟩:=amf (KY ha).2 (KY hb).2 h;exact⟨h1,ars h2⟩
theorem zO{a b}{k}(hb:qk b=true):cJ a k≠b:=by intro e;exact(KY hb).2 (by rw[<-e];simp[cJ])
theorem amg{a}(ha:qk a=true)(k):tj (cJ a k):=by
 intro hm;simp only[cJ,pt,FW]at hm;rcases hm with(hm|hm)|hm
 .exact(KY ha).1 hm
 .simp_all
 .have:=auN 47 (by decide) (by decide) k 47 hm;simp_all
theorem amh{a}(ha:qk a=true){k}(h0:0<=k)(h1:k<=1000000):(cJ a k).length<=1000:=by grind[Nn,RN,NR,cJ,AS,IS,Cd]
theorem ad1(first)(q)(nm)(t)(on)(s:Em):(lT first q nm t on s).2.qs.length=s.qs.length+1:=by unfold lT;grind
theorem art(first)(e)(on)(st:Em):(kz first e on st).qs.length<=st.qs.length+1:=by
 unfold kz;split
 .rw[ad1];omega
 .omega
theorem Np(p)(i)(first):∀(xs:List Ex) (zS:List (Option (List gT))) (st:Em),(∀x∈xs,∀on st,((iR p i first x on st).2.qs.length:Int)<=st.qs.length+2*dt x)->
 ((bZ p i first xs zS st).2.qs.length:Int)<=st.qs.length+2*hY xs
 |[],_,st,_=>by rw[bZ,hY];simp
 |x::xs,[],st,_=>by have h1:=iz x;have h2:=jm xs;rw[bZ,hY];grind
 |x::xs,none::zS,st,h=>by
  have h1:=iz x;have:=Np p i first xs zS st λy hy=>h y (by simp[hy])
  rw[bZ,hY];grind
 |x::xs,some on::zS,st,h=>by
  have h1:=h x (by simp) on st;have:=Np p i first xs zS (iR p i first x on st).2 λy hy=>h y (by simp[hy])
  rw[bZ,hY];grind
theorem aCI{p}{i}{first}{e:Ex}(h:∀x∈e.ar,∀on st,((iR p i first x on st).2.qs.length:Int)<=st.qs.length+2*dt x)(nm)(on)(st:Em):
 ((fS p i first e nm on st).2.qs.length:Int)<=st.qs.length+2*dt e:=by
 unfold fS;rw[ad1];unfold ng;have h1:=Np p i first e.ar (oq p e on) (kz first e on st) h
 grind[art,jX]
theorem aru(p)(i)(first)(e):∀on st,((iR p i first e on st).2.qs.length:Int)<=st.qs.length+2*dt e:=by
 induction e using Ex.ind with
 |h e ih=>
  intro on st;rw[tu];have h1:=iz e;split
  .grind
  .exact aCI ih [] on st
section
variable {p:fc} {i:Nat} {n:kY} {l:cT} {f:Fl}
structure Pce(p:fc)(i:Nat)(l:cT)(f:Fl)(x:xY)(vs:List Va)(qs:List Pl):Prop where
 ix:vs.map (·.name)=(List.range vs.length).map λk:Nat=>cJ (x.names.getD 0 []) (1+k)
 nm:dI qs=vs.map (·.name)++x.names
 ty:∀v∈vs,bg l.enums (z6 v)=true
 len:vs.length<=1000/\qs.length<=1000
 ok:(∀v∈vs,fO f v.name=some v)->∀q∈qs,KP l i f q
theorem aCq(C:Ctx p i n l f){x:xY}(U:x∈n.eqs)(u6:yO x.e):Ng p i x.e:=λy hy=>by have h1:=C.KF.eqs x U;simp only[Ep,ab]at h1;have h2:=h1.1.2;simp only[nj,ab,BE]at h2;exact⟨h2.2 y hy,C.KF.part x U y hy,u6 y hy⟩
theorem arv(C:Ctx p i n l f){k:Nat}{x:xY}(US:n.eqs[k]? =some x)(u6:yO x.e)(st:Em):∃vs qs,(xZ p i st x).vs=st.vs++vs/\(xZ p i st x).qs=st.qs++qs/\Pce p i l f x vs qs:=by
 have U:=ed US;have he:=aCq C U u6;have Hc:=fU C.node;obtain⟨q1,q2,q3⟩:=he.self;have h1:=C.KF.eqs x U;simp only[Ep,ab,ir,BE,CJ,GO]at h1;obtain⟨⟨⟨g1,g2⟩,g3⟩,g4⟩:=h1;simp only[nj,ab,ir]at g3;obtain⟨aCJ,aKM,_⟩:=DN (C.KF._k k x US);have bP:x.names≠[]:=λe=>by simp_all
 have zQ:=C.KF.cl x U;have iq:=C.KF.ty x U;have UO:∀s∈x.names,∃d∈dQ n,d.name=s:=λs I=>by simp_all[V4,fv,sC]
 have h0:x.names.getD 0 []∈x.names:=wu g2;obtain⟨d0,ZF,aGj⟩:=UO _ h0;have aCr:=C.KF.row d0 ZF;rw[aGj]at aCr;cases oe:dU p i (x.names.getD 0 [])with
 |none=>simp_all
 |some on=>
 simp only[LR,oe,S1,ab,BE,GO]at zQ;obtain⟨cl1,cl2⟩:=zQ;obtain⟨on1,_y⟩:=L5 oe;have on3:=auz C.node C.KF oe;have hc:Dc p i on x.e:=⟨on3,by omega⟩;have UA:∀s∈x.names,∃v,fO f s=some v/\v.on=on/\∃d,fv n s=some d/\z6 v=d.ty:=λs I=>by obtain⟨d,Z,rfl⟩:=UO s I;refine⟨varOf p i d,C.dec d Z,?_,d,aAl C.KF.once Z,rfl⟩;exact cl1 _ I
 have hT:(∃t,rF p i x.e=some t)\/(x.e.kind=13/\∃ts,jW p i x.e=some ts):=by
  unfold Cu Ju at iq;by_cases Jc:x.e.kind=13
  .grind
  .rw[ba Jc]at iq;cases q:rF p i x.e<;>simp_all
 obtain⟨vs,qs,BZ,R,a1,a2,a3,a4⟩:=aCG C (λy _=>amc C y) he hc cl2 hT (x.names.getD 0 []) ⟨0,st.vs,st.qs⟩;have Hg:(xZ p i st x)=⟨(ng p i (x.names.getD 0 []) x.e on ⟨0,st.vs,st.qs⟩).2.R,(ng p i (x.names.getD 0 []) x.e on ⟨0,st.vs,st.qs⟩).2.vs,
  (ng p i (x.names.getD 0 []) x.e on ⟨0,st.vs,st.qs⟩).2.qs++[RZ (ng p i (x.names.getD 0 []) x.e on ⟨0,st.vs,st.qs⟩).1 x.names on]⟩:=by
  unfold xZ fS lT;rw[oe,ba bP];rfl
 have hlen:=aCI (p:=p) (i:=i) (first:=x.names.getD 0 []) (e:=x.e) (λy _=>aru p i _ y) x.names on ⟨0,st.vs,st.qs⟩;have aH3:((xZ p i st x).qs.length:Int)<=st.qs.length+2*dt x.e:=by simp_all[xZ,fS]
 refine⟨vs,qs++[RZ (ng p i (x.names.getD 0 []) x.e on ⟨0,st.vs,st.qs⟩).1 x.names on],by rw[Hg];exact a1.ev,by rw[Hg];simp only;rw[a1.eq,AT],?_⟩;have Jr:(qs.length:Int)+1<=120:=by
  have:(xZ p i st x).qs.length=st.qs.length+(qs.length+1):=by rw[Hg];simp only;rw[a1.eq];simp[]
  omega
 refine⟨?_,?_,a1.ty,⟨by rw[<-a1.ln];omega,by simp;omega⟩,λhv q hq=>?_⟩
 .rw[a1.ix];simp_all
 .rw[mZ,a1.nm];simp[dI,RZ]
 obtain⟨k1,k2,k3⟩:=a4 hv;rcases pt.1 hq with hq|hq
 .exact k3 q hq
 rw[FW]at hq;subst hq;rw[a2];have hw:∃w,Ju p i x=some w/\w.length=x.names.length/\∀(j:Nat) (t:Ty) (s:B3),w[j]? =some t->x.names[j]? =some s->uD f s=t:=by
  unfold Cu at iq;cases hw:Ju p i x with
  |none=>simp_all
  |some w=>
   rw[hw]at iq;simp only[ab,GO,BE,ir]at iq;refine⟨w,rfl,iq.1,λj t s ht I=>?_⟩;have hz:(t,s)∈w.zip x.names:=by refine ed (i:=j) ?_;grind
   have:=iq.2 _ hz;rw[Hc]at this;obtain⟨v,D8,_,d,Z,htv⟩:=UA s (ed I);simp_all[uD]
 obtain⟨w,Uw,Lp,hw3⟩:=hw;have D9:x.names.length<=6/\(x.e.kind≠13->x.names.length=1):=by
  refine⟨?_,λh=>g4.resolve_right h⟩;rcases g4 with g4|g4
  .omega
  .unfold Ju at Uw;rw[gr g4]at Uw;split at Uw
   .cases Uw
   next ts zb=>rw[Xs]at Uw;obtain⟨k',Ih,rfl⟩:=Uw;obtain⟨g,hg⟩:=zd (Cv Ih).1;rw[fU hg,Pe]at Lp;have:=(C.all k' g hg).few;omega
 refine⟨bP,λs I=>?_,λc kX=>⟨on1 c kX,ZL C (on3 c kX).2⟩,⟨by show on.length<=1000;omega,ad0 q1 a3,by show x.names.length<=1000;omega⟩,aCF,?_⟩
 .obtain⟨v,Fc,Z',_⟩:=UA s I;exact⟨v,Fc,Z'⟩
 .have wJ:aw (RZ (y8 p i (x.names.getD 0 []) x.e BZ R) x.names on)=x.names.getD 0 []:=rfl;by_cases Jc:x.e.kind=13
  .refine .inr ?_;unfold Ju at Uw;rw[gr Jc]at Uw;split at Uw
   .cases Uw
   next ts zb=>rw[Xs]at Uw;obtain⟨k',Ih,rfl⟩:=Uw;refine aCE C he Jc zb Ih k1 (by simp_all) λj s d I Z=>?_;exact hw3 j d.ty s (by simp_all) I
  .refine .inl ⟨D9.2 Jc,?_⟩;rw[wJ];unfold Ju at Uw;rw[ba Jc,Xs]at Uw;obtain⟨t,ht,rfl⟩:=Uw;have h0s:x.names[0]? =some (x.names.getD 0 []):=by simp_all
   rw[hw3 0 t _ rfl h0s];exact ajd C he hc cl2 ht Jc k1 k2 x.names
def Wj(p:fc)(i:Nat)(l:cT)(f:Fl):List xY->List (List Va×List Pl)->Prop
 |[],[]=>True
 |x::r,y::s=>Pce p i l f x y.1 y.2/\Wj p i l f r s
 |_,_=>False
theorem Nq(C:Ctx p i n l f):∀(r pre:List xY) (st:Em),n.eqs=pre++r->(∀x∈r,yO x.e)->∃ps,Wj p i l f r ps/\(r.foldl (xZ p i) st).vs=st.vs++ps.flatMap (·.1)/\(r.foldl (xZ p i) st).qs=st.qs++ps.flatMap (·.2)
 |[],_,st,_,_=>⟨[],trivial,by simp,by simp⟩
 |x::r,pre,st,he,h=>by obtain⟨vs,qs,h1,h2,h3⟩:=arv C (k:=pre.length) (x:=x) (by rw[he];simp) (h x (by simp)) st;obtain⟨ps,g1,g2,g3⟩:=Nq C r (pre++[x]) (xZ p i st x) (by rw[he];simp) λy hy=>h y (by simp[hy]);refine⟨(vs,qs)::ps,⟨h3,g1⟩,?_,?_⟩<;>simp_all
end
def PB(pl:List (BS×Bool))(i:Nat):Bool:= !(pl.getD i ([],true)).2
theorem aCK(pl:List (BS×Bool))(i):(place pl i).length=pl.length:=by simp[place]
theorem TV{pl:List (BS×Bool)}{i}(j):(place pl i).getD j ([],true)=if i=j/\j<pl.length then((pl.getD i ([],true)).1,true)else pl.getD j ([],true):=by unfold place;grind
theorem aJT{α} [DecidableEq α]{l:List α}(h:l.Nodup){g g':α->Bool}{a:α}(ha:g a=true)(hg:∀b,g' b=(g b&&b !=a)):l.filter g'=(l.filter g).erase a:=by grind[List.Nodup.erase_eq_filter,List.filter_filter,List.filter_congr,Bool.and_comm]
theorem auO{I:List BS}{pl}{i}(h:Rz I pl=some i):i<I.length/\(∀s∈I.getD i [],iH pl s=false)/\PB pl i=true:=by unfold Rz at h;simp_all[List.find?_some,V3,tW,ab,BE,aaa,List.mem_range,PB]
theorem ajV{I:List BS}:∀(k:Nat) (pl:List (BS×Bool)) (l:List Nat),pl.length=I.length->((List.range I.length).filter (PB pl)).length=k->gM I k pl=(l,true)->
 l.Perm ((List.range I.length).filter (PB pl))/\∀(j:Nat) (i:Nat),l[j]? =some i->∀s∈I.getD i [],iH ((l.take j).foldl place pl) s=false
 |0,pl,l,hl,hk,h=>by simp only[gM,Ce]at h;simp_all
 |k+1,pl,l,hl,hk,h=>by
  rw[gM]at h;split at h
  .simp at h
  rename_i i hi;obtain⟨n1,n2,n3⟩:=auO hi;simp only[Ce]at h;obtain⟨h1,h2⟩:=h;have hg:∀b,PB (place pl i) b=(PB pl b&&b !=i):=λb=>by unfold PB;rw[TV];grind
  have hf:=aJT (l:=List.range I.length) List.nodup_range (g:=PB pl) (g':=PB (place pl i)) (a:=i) n3 hg;have hm:=PC.2 ⟨List.mem_range.2 n1,n3⟩;have hlen:((List.range I.length).filter (PB (place pl i))).length=k:=by simp_all
  obtain⟨g1,g2⟩:=ajV k (place pl i) (gM I k (place pl i)).1 (by rw[aCK];exact hl) hlen (by rw[<-h2]);refine⟨?_,λj m hj s yr=>?_⟩
  .grind
  .rw[<-h1]at hj|-;cases j<;>grind
theorem aCL(pl:List (BS×Bool)):∀(l:List Nat) (m:Nat),m<pl.length->((l.foldl place pl).getD m ([],true)).1=(pl.getD m ([],true)).1/\(m∉l->((l.foldl place pl).getD m ([],true)).2=(pl.getD m ([],true)).2)
 |[],m,_=>⟨rfl,λ_=>rfl⟩
 |i::l,m,hm=>by
  obtain⟨h1,h2⟩:=aCL (place pl i) l m (by rw[aCK];exact hm);rw[S2,h1];refine⟨?_,λhn=>?_⟩
  .grind[TV]
  .rw[h2 (λh=>hn (by simp[h])),TV,ba (λc=>hn (by simp[c.1]))]
theorem akd{α}(g:α->BS)(l:List α):(List.range l.length).filter (PB (l.map λx=>(g x,false)))=List.range l.length:=by simp_all[List.filter_eq_self,List.mem_range,PB,BY,M9,tx]
theorem ahw{α} [Inhabited α](l:List α):(List.range l.length).map (λi=>l.getD i default)=l:=by refine FX λi=>?_;grind
theorem ahx{f:Fl}(h:(fA f).2=true):(lB f).eqs.Perm f.eqs:=by have:=ajV (I:=f.eqs.map gA) f.eqs.length (f.eqs.map λq=>(q.names,false)) (fA f).1 (by simp) (by rw[Pe,akd];simp) (by unfold fA at h|-;rw[<-h]);have h1:=this.1;rw[Pe,akd]at h1;have h2:=h1.map λi=>f.eqs.getD i default;rw[ahw]at h2;exact h2
theorem ami{f:Fl}(h:(fA f).2=true)(k:Nat)(q:Pl)(hq:(lB f).eqs[k]? =some q)(s:B3)(I:s∈gA q)(Z:s∈dI f.eqs):s∈dI ((lB f).eqs.take k):=by
 have:=ajV (I:=f.eqs.map gA) f.eqs.length (f.eqs.map λq=>(q.names,false)) (fA f).1 (by simp) (by rw[Pe,akd];simp) (by unfold fA at h|-;rw[<-h]);obtain⟨h1,h2⟩:=this;have Fi:=hq;simp only[lB,M9]at Fi;cases hi:(fA f).1[k]? with
 |none=>simp_all
 |some i=>
  rw[hi]at Fi;simp at Fi;have Hb:i<f.eqs.length:=by have:=h1.mem_iff.1 (ed hi);simp_all
  have Y:f.eqs[i]? =some q:=by simp_all
  have e2:(f.eqs.map gA).getD i []=gA q:=by simp_all
  have h3:=h2 k i hi s (by simp_all);obtain⟨r,E,hsr⟩:=Eg.1 Z;obtain⟨m,hm⟩:=adm E;have _o:m<f.eqs.length:=(pc.1 hm).1;obtain⟨p1,p2⟩:=aCL (f.eqs.map λq=>(q.names,false)) ((fA f).1.take k) m (by simp_all);have e3:(f.eqs.map λq:Pl=>(q.names,false)).getD m ([],true)=(r.names,false):=by simp_all
  rw[e3]at p1 p2;have NG:m∈(fA f).1.take k:=by
   refine V2 λhn=>?_;have p3:=p2 hn;have mP:m<(((fA f).1.take k).foldl place (f.eqs.map λq=>(q.names,false))).length:=by grind
   have U:((((fA f).1.take k).foldl place (f.eqs.map λq=>(q.names,false))).getD m ([],true))∈(((fA f).1.take k).foldl place (f.eqs.map λq=>(q.names,false))):=wu mP;have:iH (((fA f).1.take k).foldl place (f.eqs.map λq=>(q.names,false))) s=true:=by unfold iH;grind
   simp_all
  have:r∈(lB f).eqs.take k:=by simp only[lB,<-List.map_take];grind
  exact pg this hsr
section
variable {p:fc} {i:Nat} {n:kY} {l:cT} {f:Fl}
theorem ad2(N:Pz p i n):∀(r pre:List xY),n.eqs=pre++r->(r.flatMap (·.names)).Pairwise (·≠·)/\∀s∈r.flatMap (·.names),s∉pre.flatMap (·.names)
 |[],_,_=>⟨.nil,λs I=>by simp at I⟩
 |x::r,pre,he=>by
  obtain⟨h1,h2⟩:=ad2 N r (pre++[x]) (by rw[he];simp);obtain⟨g1,g2,_⟩:=DN (N._k pre.length x (by rw[he];simp));have U:∀s∈x.names,s∉pre.flatMap (·.names):=λs I hm=>by have:=(g1 s I).2.2;unfold gJ at this;rw[show n.eqs.take pre.length=pre by rw[he];simp]at this;have wO:s∈(pre.flatMap (·.names)).filter (·==s):=PC.2 ⟨hm,by simp⟩;grind
  rw[Cq];refine⟨Cz.2 ⟨g2,h1,λa ha b hb e=>?_⟩,λs I hm=>?_⟩<;>grind
theorem TZ(N:Pz p i n){x:xY}(U:x∈n.eqs):(∀s∈x.names,qk s=true)/\0<x.names.length:=by have:=N.eqs x U;simp_all[Ep,ab,ir,BE]
theorem DQ:∀{r:List xY} {ps:List (List Va×List Pl)},Wj p i l f r ps->
 (∀s∈ps.flatMap (λy=>y.1.map (·.name)),∃x∈r,∃k:Nat,k<1000/\s=cJ (x.names.getD 0 []) (1+k))/\
 (∀s∈ps.flatMap (λy=>dI y.2),s∈ps.flatMap (λy=>y.1.map (·.name))\/∃x∈r,s∈x.names)/\
 (∀s∈ps.flatMap (λy=>y.1.map (·.name)),s∈ps.flatMap (λy=>dI y.2))/\∀x∈r,∀s∈x.names,s∈ps.flatMap (λy=>dI y.2)
 |[],[],_=>⟨λs I=>by simp at I,λs I=>by simp at I,λs I=>by simp at I,λx U=>by simp at U⟩
 |x::r,y::ps,h=>by
  obtain⟨h1,h2⟩:=h;obtain⟨g1,g2,g3,g4⟩:=DQ h2;simp only[Cq];refine⟨λs I=>?_,λs I=>?_,λs I=>?_,λz hz s I=>?_⟩
  .rcases pt.1 I with I|I
   .rw[h1.ix]at I;obtain⟨k,hk,rfl⟩:=It.1 I;exact⟨x,by simp,k,by have:=List.mem_range.1 hk;have:=h1.len.1;omega,rfl⟩
   grind
  .rcases pt.1 I with I|I
   .rw[h1.nm]at I;grind
   grind
  .rcases pt.1 I with I|I
   .exact pt.2 (.inl (by rw[h1.nm];grind))
   grind
  .rcases NO.1 hz with e|hz
   .subst e;exact pt.2 (.inl (by rw[h1.nm];grind))
   grind
 |[],_::_,h=>h.elim
 |_::_,[],h=>h.elim
theorem akf(N:Pz p i n):∀{r pre:List xY} {ps:List (List Va×List Pl)},n.eqs=pre++r->Wj p i l f r ps->(ps.flatMap (λy=>dI y.2)).Pairwise (·≠·)/\(ps.flatMap (λy=>y.1.map (·.name))).Pairwise (·≠·)
 |[],_,[],_,_=>⟨.nil,.nil⟩
 |x::r,pre,y::ps,he,h=>by
  obtain⟨h1,h2⟩:=h;have UI:n.eqs=(pre++[x])++r:=by rw[he];simp
  obtain⟨g1,g2⟩:=akf N UI h2;obtain⟨k1,k2,k3,k4⟩:=DQ h2;have U:x∈n.eqs:=by rw[he];simp
  have E:∀z∈r,z∈n.eqs:=λz hz=>by grind
  obtain⟨aCM,aJU⟩:=TZ N U;have h0:x.names.getD 0 []∈x.names:=wu aJU;obtain⟨o1,_⟩:=ad2 N (x::r) pre he;rw[Cq]at o1;obtain⟨o2,o3,akk⟩:=Cz.1 o1;have ma:∀z∈r,x.names.getD 0 []≠z.names.getD 0 []:=λz hz e=>
   akk _ h0 _ (Eg.2 ⟨z,hz,wu (TZ N (E z hz)).2⟩) e
  have own:(y.1.map (·.name)).Pairwise (·≠·):=by rw[h1.ix,MH];refine List.Pairwise.imp ?_ List.pairwise_lt_range;grind[aCH]
  have fl:∀(a:B3),a∈y.1.map (·.name)->∃k:Nat,a=cJ (x.names.getD 0 []) (1+k):=λa ha=>by rw[h1.ix]at ha;obtain⟨k,_,rfl⟩:=It.1 ha;grind
  have aCs:∀a∈y.1.map (·.name),∀b∈ps.flatMap (λy=>y.1.map (·.name)),a≠b:=λa ha b hb e=>by obtain⟨k,rfl⟩:=fl a ha;obtain⟨z,hz,m,_,e2⟩:=k1 b hb;grind[aCH,TZ,wu]
  simp only[Cq];refine⟨Cz.2 ⟨?_,g1,λa ha b hb e=>?_⟩,Cz.2 ⟨own,g2,aCs⟩⟩
  .rw[h1.nm];refine Cz.2 ⟨own,o2,λa ha b hb e=>?_⟩;obtain⟨k,rfl⟩:=fl a ha;exact zO (aCM b hb) e
  .rw[h1.nm]at ha;rcases pt.1 ha with ha|ha<;>rcases k2 b hb with hb|⟨z,hz,hb⟩
   .grind
   .obtain⟨k,rfl⟩:=fl a ha;exact zO ((TZ N (E z hz)).1 b hb) e
   .obtain⟨z,hz,m,_,e2⟩:=k1 b hb;exact zO (aCM a ha) (e2.symm.trans e.symm)
   grind
 |[],_,_::_,_,h=>h.elim
 |_::_,_,[],_,h=>h.elim
end
theorem aCN(ps:List (List Va×List Pl)):dI (ps.flatMap (·.2))=ps.flatMap λy=>dI y.2:=by
 induction ps with
 |nil=>rfl
 |cons y ps ih=>simp_all[Cq,mZ]
theorem aCO(ps:List (List Va×List Pl)):(ps.flatMap (·.1)).map (·.name)=ps.flatMap λy=>y.1.map (·.name):=by induction ps<;>simp_all
structure vm(p:fc):Prop where
 chk:wX p=true
 WV:p.en.length<=1000
 WW:∀e∈p.en,e.ct.length<=1000
 i64:∀n∈p.nodes,∀x∈n.eqs,yO x.e
theorem aCP{p}{i}{n:kY}(N:Pz p i n):((n.ins++n.outs++n.vars).map (varOf p i)).Pairwise λa b=>a.name≠b.name:=by rw[MH];exact N.once
theorem ayC{p:fc}{i}{n}(hn:p.nodes[i]? =some n)(N:Pz p i n){d:tN}(Z:d∈dQ n)(h:d.on=[]):dU p i d.name=some []:=by unfold dU;rw[gr (pc.1 hn).1,fU hn];unfold mj;rw[Pb,aAl N.once Z];simp only;rw[gr h];rfl
theorem ad3{p:fc}(H:vm p){i}{n:kY}(hn:p.nodes[i]? =some n):∃ps,Wj p i (eK p) (gQ p i n) n.eqs ps/\Ctx p i n (eK p) (gQ p i n)/\(gQ p i n).vars=n.vars.map (varOf p i)++ps.flatMap (·.1)/\(gQ p i n).eqs=ps.flatMap (·.2)/\
 (fu (gQ p i n)).Pairwise (λa b=>a.name≠b.name):=by
 have hC:=_j H.chk;have N:=_l hC hn;have su:∀(k:Nat) (g:kY),p.nodes[k]? =some g->Pz p k g:=λk g hg=>_l hC hg;have PH:∀(k:Nat) (g:kY),p.nodes[k]? =some g->(ad (eK p) k).ins=g.ins.map (varOf p k)/\(ad (eK p) k).outs=g.outs.map (varOf p k):=λk g hg=>by
  have:ad (eK p) k=lB (gQ p k g):=by simp_all[ad,eK,m5,GC,BY,M9,List.getElem?_mapIdx]
  rw[this];exact⟨rfl,rfl⟩
 have mk:∀f,(∀d∈dQ n,fO f d.name=some (varOf p i d))->Ctx p i n (eK p) f:=λf UO=>
  ⟨hn,N,su,rfl,auu (nR hC.pp).1,H.WV,H.WW,UO,PH⟩
 have hm:=ed hn;have u6:=H.i64 n hm;have ZF:∀d∈dQ n,fO ⟨[],n.ins.map (varOf p i),n.outs.map (varOf p i),n.vars.map (varOf p i),[]⟩ d.name=some (varOf p i d):=λd Z=>by
  unfold fO;have e:fu ⟨[],n.ins.map (varOf p i),n.outs.map (varOf p i),n.vars.map (varOf p i),[]⟩=(n.ins++n.outs++n.vars).map (varOf p i):=by simp[fu]
  rw[e];exact qe (aCP N) (It.2 ⟨d,Z,rfl⟩) rfl
 obtain⟨ps0,a1,a2,a3⟩:=Nq (mk _ ZF) n.eqs [] ⟨0,n.vars.map (varOf p i),[]⟩ rfl u6;have ev:(gQ p i n).vars=n.vars.map (varOf p i)++ps0.flatMap (·.1):=a2;have hu:(fu (gQ p i n)).Pairwise λa b=>a.name≠b.name:=by
  have e:fu (gQ p i n)=(n.ins++n.outs++n.vars).map (varOf p i)++ps0.flatMap (·.1):=by unfold fu;rw[ev];simp[gQ]
  rw[e];obtain⟨_,o2⟩:=akf N (pre:=[]) (r:=n.eqs) rfl a1;obtain⟨k1,_⟩:=DQ a1;refine Cz.2 ⟨aCP N,?_,λa ha b hb e=>?_⟩
  .grind[aCO,MH]
  .obtain⟨d,Z,rfl⟩:=It.1 ha;have OA:b.name∈ps0.flatMap λy=>y.1.map (·.name):=by grind
   obtain⟨x,U,k,_,e2⟩:=k1 _ OA;exact zO (DP N Z).2 (e2.symm.trans e.symm)
 have UO:∀d∈dQ n,fO (gQ p i n) d.name=some (varOf p i d):=λd Z=>by unfold fO;refine qe hu ?_ rfl;unfold fu;rw[ev];have:varOf p i d∈(n.ins++n.outs++n.vars).map (varOf p i):=It.2 ⟨d,Z,rfl⟩;grind[IN,pt,gQ]
 obtain⟨ps,b1,b2,b3⟩:=Nq (mk _ UO) n.eqs [] ⟨0,n.vars.map (varOf p i),[]⟩ rfl u6;exact⟨ps,b1,mk _ UO,b2,by rw[Bz]at b3;exact b3,hu⟩
theorem arw{p}{i}{l:cT}{f}:∀{r:List xY} {ps:List (List Va×List Pl)},Wj p i l f r ps->(∀y∈ps,∀v∈y.1,fO f v.name=some v)->(∀y∈ps,∀q∈y.2,KP l i f q)/\(∀y∈ps,∀v∈y.1,bg l.enums (z6 v)=true)/\ps.length=r.length/\∀y∈ps,y.2.length<=1000
 |[],[],_,_=>⟨λy hy=>by simp at hy,λy hy=>by simp at hy,rfl,λy hy=>by simp at hy⟩
 |x::r,y::ps,h,hv=>by
  obtain⟨h1,h2⟩:=h;obtain⟨g1,g2,g3,g4⟩:=arw h2 λz hz=>hv z (by simp[hz]);refine⟨λz hz=>?_,λz hz=>?_,by simp[g3],λz hz=>?_⟩
  .rcases NO.1 hz with e|hz
   .subst e;exact h1.ok (hv z (by simp))
   grind
  .rcases NO.1 hz with e|hz
   .subst e;exact h1.ty
   grind
  .rcases NO.1 hz with e|hz
   .subst e;exact h1.len.2
   grind
 |[],_::_,h,_=>h.elim
 |_::_,[],h,_=>h.elim
theorem aCQ{α β}{g:α->List β}{k}:∀{l:List α},(∀x∈l,(g x).length<=k)->(l.flatMap g).length<=l.length*k
 |[],_=>by simp
 |x::l,h=>by have h1:=h x (by simp);have h2:=aCQ (l:=l) (g:=g) (k:=k) λy hy=>h y (by simp[hy]);rw[Cq,AS,IS,GM];omega
theorem amj{p:fc}(H:vm p){i}{n}(hn:p.nodes[i]? =some n)(ho:(fA (gQ p i n)).2=true):tl (eK p) i (lB (gQ p i n)):=by
 obtain⟨ps,h1,C,h2,h3,h4⟩:=ad3 H hn;have N:=C.KF;have vo:=ahx ho;have eg:fu (lB (gQ p i n))=fu (gQ p i n):=rfl;have hvo:∀s,fO (lB (gQ p i n)) s=fO (gQ p i n) s:=λs=>rfl;have su:fu (gQ p i n)=(n.ins++n.outs++n.vars).map (varOf p i)++ps.flatMap (·.1):=by unfold fu;rw[h2];simp[gQ]
 have ayD:∀y∈ps,∀v∈y.1,fO (gQ p i n) v.name=some v:=λy hy v hv=>by unfold fO;refine qe h4 ?_ rfl;grind
 obtain⟨g1,g2,g3,g4⟩:=arw h1 ayD;obtain⟨k1,k2,k3,k4⟩:=DQ h1;obtain⟨o1,_⟩:=akf N (pre:=[]) (r:=n.eqs) rfl h1;have hnp:(dI (lB (gQ p i n)).eqs).Perm (ps.flatMap λy=>dI y.2):=by rw[<-aCN,<-h3];exact vo.flatMap_right _
 have PH:∀v∈ps.flatMap (·.1),v.name∈ps.flatMap λy=>y.1.map (·.name):=λv hv=>by rw[<-aCO];grind
 have awd:∀d∈dQ n,qk d.name=true:=λd Z=>(DP N Z).2;have lP:=N.few;refine⟨h4,λv hv=>?_,λv hv=>?_,λq hq=>?_,?_,λs I d Z e=>?_,λv hv=>?_,λk q hq s I=>?_,?_⟩
 .rw[eg,su]at hv;rcases pt.1 hv with hv|hv
  .obtain⟨d,Z,rfl⟩:=It.1 hv;have hl:=awd d Z;exact⟨(DP N Z).1,arl hl,(KY hl).1,by have:=(Nn hl).2;show d.name.length<=1000;omega⟩
  .obtain⟨y,hy,D8⟩:=Eg.1 hv;refine⟨g2 y hy v D8,?_⟩;obtain⟨x,U,k,hk,e⟩:=k1 _ (PH v hv);grind[TZ,wu,TR,amg,amh]
 .have:∃d∈n.ins++n.outs,v=varOf p i d:=by
   have D8:v∈(n.ins++n.outs).map (varOf p i):=by rw[IN];exact hv
   obtain⟨d,Z,e⟩:=It.1 D8;grind
  obtain⟨d,Z,rfl⟩:=this;have hda:d∈dQ n:=by unfold dQ;grind
  unfold varOf;rw[ayC hn N hda (N.io d Z)];rfl
 .have Fi:=vo.mem_iff.1 hq;rw[h3]at Fi;obtain⟨y,hy,Jr⟩:=Eg.1 Fi;have:=g1 y hy q Jr;refine⟨this.ne,this.nm,this.on,this.len,this.rs,?_⟩;rcases this.body with⟨b1,b2⟩|b
  .refine .inl ⟨b1,?_⟩;cases b2 with
   |copy a on h1 h2 h3 h4=>exact .copy a on h1 h2 h3 h4
   |un a u h1 h2 h3 h4=>exact .un a u h1 h2 h3 h4
   |bin a b u w h1 h2 h3 h4 h5=>exact .bin a b u w h1 h2 h3 h4 h5
   |ite a b c h1 h2 h3 h4 h5=>exact .ite a b c h1 h2 h3 h4 h5
   |Ln a h1 h2 h3 h4=>exact .Ln a h1 h2 h3 h4
   |HU x v a b h1 h2 h3 h4 h5 h6 h7 h8=>exact .HU x v a b h1 h2 h3 h4 h5 h6 h7 h8
   |HV x v la h1 h2 h3 h4 h5 h6 h7 h8=>exact .HV x v la h1 h2 h3 h4 h5 h6 h7 h8
   |arr h1 h2 h3 h4=>exact .arr h1 h2 h3 h4
   |at_ a b u h1 h2 h3 h4 h5 h6=>exact .at_ a b u h1 h2 h3 h4 h5 h6
   |set a b c h1 h2 h3 h4 h5 h6=>exact .set a b c h1 h2 h3 h4 h5 h6
  .exact .inr ⟨b.kind,b.node,b.ins,b.arg,b.outs,b.out,b.every⟩
 .exact(hnp.pairwise_iff (λh=>h.symm)).2 o1
 .have yr:=hnp.mem_iff.1 I;have xo:∃d'∈n.ins,d=varOf p i d':=by obtain⟨d',h,e⟩:=It.1 (show d∈n.ins.map (varOf p i) from Z);grind
  obtain⟨d',Kj,rfl⟩:=xo;have hda:d'∈dQ n:=by grind[dQ,pt]
  rcases k2 s yr with D6|⟨x,U,D6⟩
  .obtain⟨x,U,k,_,e2⟩:=k1 s D6;exact zO (awd d' hda) (e2.symm.trans e.symm)
  .obtain⟨j,hj⟩:=adm U;obtain⟨aCJ,_,_⟩:=DN (N._k j x hj);have:=(aCJ s D6).2.1;unfold yb at this;grind[List.any_eq_false,varOf]
 .refine hnp.mem_iff.2 ?_;rcases pt.1 hv with hv|hv
  .obtain⟨d,Z,rfl⟩:=It.1 (show v∈n.outs.map (varOf p i) from hv);obtain⟨x,U,I⟩:=N.Zy d (pt.2 (.inl Z));exact k4 x U _ I
  .rw[show(lB (gQ p i n)).vars=(gQ p i n).vars from rfl,h2]at hv;rcases pt.1 hv with hv|hv
   .obtain⟨d,Z,rfl⟩:=It.1 hv;obtain⟨x,U,I⟩:=N.Zy d (pt.2 (.inr Z));exact k4 x U _ I
   grind
 .have Fi:=ed hq;have hqe:=vo.mem_iff.1 Fi;rw[h3]at hqe;obtain⟨y,hy,Jr⟩:=Eg.1 hqe;have hG:=g1 y hy q Jr;have UA:∃v,fO (gQ p i n) s=some v:=by
   unfold gA at I;obtain⟨mU,D6⟩:=PC.1 I;have RJ:s≠[]:=by grind
   have Z6:∀(a:yI) (t:Ty) (on:List gT),lN (eK p).enums (gQ p i n) a t on->a.1=s->∃v,fO (gQ p i n) s=some v:=λa t on ha e=>by rcases ha with⟨h,_⟩|⟨_,v,hv,_⟩<;>grind
   rcases pt.1 mU with mU|mU
   .rcases pt.1 mU with mU|mU
    .split at mU
     .simp at mU
     .rename_i k5;obtain⟨a,ha,e⟩:=It.1 mU;rcases hG.body with⟨_,b⟩|b
      .cases b with
       |copy a' on h1 h2 h3 h4=>rw[h2]at ha;simp at ha;subst ha;exact Z6 _ _ _ h4 e
       |un a' u h1 h2 h3 h4=>rw[h2]at ha;simp at ha;subst ha;exact Z6 _ _ _ h3 e
       |bin a' b u w h1 h2 h3 h4 h5=>
        rw[h2]at ha;simp at ha;rcases ha with rfl|rfl
        .exact Z6 _ _ _ h3 e
        .exact Z6 _ _ _ h4 e
       |ite a' b c h1 h2 h3 h4 h5=>
        rw[h2]at ha;simp at ha;rcases ha with rfl|rfl|rfl
        .exact Z6 _ _ _ h3 e
        .exact Z6 _ _ _ h4 e
        .exact Z6 _ _ _ h5 e
       |Ln a' h1 h2 h3 h4=>omega
       |HU x v a' b h1 h2 h3 h4 h5 h6 h7 h8=>
        rw[h2]at ha;simp at ha;rcases ha with rfl|rfl|rfl
        .grind
        .exact Z6 _ _ _ h7 e
        .exact Z6 _ _ _ h8 e
       |HV x v la h1 h2 h3 h4 h5 h6 h7 h8=>
        rw[h2]at ha;rcases NO.1 ha with rfl|ha
        .grind
        .obtain⟨j,hj⟩:=adm ha;exact Z6 _ _ _ (h8 j a hj) e
       |arr h1 h2 h3 h4=>exact Z6 _ _ _ (h3 a ha) e
       |at_ a' b u h1 h2 h3 h4 h5 h6=>
        rw[h2]at ha;simp at ha;rcases ha with rfl|rfl
        .exact Z6 _ _ _ h3 e
        .exact Z6 _ _ _ h5 e
       |set a' b c h1 h2 h3 h4 h5 h6=>
        rw[h2]at ha;simp at ha;rcases ha with rfl|rfl|rfl
        .exact Z6 _ _ _ h3 e
        .exact Z6 _ _ _ h5 e
        .exact Z6 _ _ _ h6 e
      .obtain⟨j,hj⟩:=adm ha;have Ss:j<(ad (eK p) q.node).ins.length:=by rw[<-b.ins];grind
       exact Z6 _ _ _ (b.arg j a _ hj (tx Ss)) e
    .split at mU
     .rename_i E;simp at mU;rcases hG.body with⟨_,b⟩|b
      .have:=hG.rs.1 E;cases b<;>omega
      .exact Z6 _ _ _ (b.every E) mU.symm
     grind
   .obtain⟨c,hc,e⟩:=It.1 mU;obtain⟨_,v,hv⟩:=hG.on c hc;grind
  obtain⟨v,hv⟩:=UA;obtain⟨m1,m2⟩:=oV hv;have NG:s∈(gQ p i n).ins.map (·.name)\/s∈dI (gQ p i n).eqs:=by
   rw[h3,aCN];rw[su]at m1;rcases pt.1 m1 with m1|m1
   .obtain⟨d,Z,rfl⟩:=It.1 m1;rcases pt.1 Z with Z|Z
    .rcases pt.1 Z with Z|Z
     .exact .inl (It.2 ⟨varOf p i d,It.2 ⟨d,Z,rfl⟩,m2⟩)
     .obtain⟨x,U,yr⟩:=N.Zy d (pt.2 (.inl Z));exact .inr (m2▸k4 x U _ yr)
    .obtain⟨x,U,yr⟩:=N.Zy d (pt.2 (.inr Z));exact .inr (m2▸k4 x U _ yr)
   grind
  rcases NG with NG|NG
  .exact .inl NG
  .exact .inr (ami ho k q hq s I NG)
 .have hl:=vo.length_eq;rw[h3]at hl;have:=aCQ (l:=ps) (g:=(·.2)) (k:=1000) g4;rw[g3]at this;refine⟨by show(n.ins.map (varOf p i)).length<=1000;grind,by show(n.outs.map (varOf p i)).length<=1000;grind,?_⟩;omega
theorem KP.init{l}{i}{f}{q:Pl}(h:KP l i f q):q.init.length<=8:=by
 by_cases hn:q.init=[]
 .rw[hn];simp
 have k:=h.rs.2 hn;rcases h.body with⟨_,b⟩|b
 .cases b<;>first|omega|exact RI.len (by assumption)|>.2
 .have:=b.kind;omega
theorem tl.Bb{l}{i}{f:Fl}(h:tl l i f):X6 f/\∀q∈f.eqs,Ti q:=by
 have hc:bN=140737488355328:=rfl;refine⟨?_,λq hq=>⟨?_,λs I=>?_⟩⟩
 .have:=h.sz.2.2;unfold X6;omega
 .have:=(h.eq q hq).init;omega
 .obtain⟨v,hv,_⟩:=(h.eq q hq).nm s I;obtain⟨m1,m2⟩:=oV hv;have:=(h.var v m1).2.2.2;grind
theorem afc{p}(H:vm p)(I:x7 p=true):lh (eK p):=by
 have awe:∀(i:Nat) (f:Fl),(eK p).fs[i]? =some f->tl (eK p) i f:=λi f hf=>by
  simp only[eK,m5,M9,List.getElem?_mapIdx]at hf;cases hn:p.nodes[i]? with
  |none=>simp_all
  |some n=>
   rw[hn]at hf;simp at hf;subst hf;refine amj H hn ?_;simp only[x7,ab,BE]at I;grind[ed,m5]
 have UK:∀f∈(eK p).fs,X6 f/\∀q∈f.eqs,Ti q:=λf hf=>by obtain⟨i,hi⟩:=adm hf;exact(awe i f hi).Bb
 refine⟨awe,⟨?_,λf hf=>(UK f hf).1⟩,λf hf=>(UK f hf).2⟩;have:=(nR (_j H.chk).pp).2.2.1;grind[eK,m5,Pe,List.length_mapIdx]
theorem awI{p:fc}(I:x7 p=true)(h:bF p=true)(u6:∀n∈p.nodes,∀x∈n.eqs,yO x.e):vm p:=by simp only[x7,ab]at I;simp only[bF,vJ,ya,ab,BE,ir]at h;refine⟨I.1,by omega,λe he=>?_,u6⟩;grind
end Go.Proofs.YtldnkkkooabaeaaGreat

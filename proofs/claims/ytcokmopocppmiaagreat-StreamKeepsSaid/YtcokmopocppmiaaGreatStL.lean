/- Taking expressions apart: what is emitted. -/
import Derived.Test.YtcokmopocppmiaaGreatStQ
set_option linter.all false
set_option maxRecDepth 20000
namespace Go.Proofs.YtcokmopocppmiaaGreat
open Go.Nk
structure Emt(en:List En)(first:List UInt8)(s t:Em)(vs:List Va)(qs:List Pl):Prop where
 ev:t.vs=s.vs++vs
 eq:t.qs=s.qs++qs
 nm:dN qs=vs.map (·.name)
 ix:vs.map (·.name)=(List.range vs.length).map λk:Nat=>cj first (s.fr+1+k)
 fr:t.fr=s.fr+vs.length
 ln:qs.length=vs.length
 ty:∀v∈vs,bq en (z3 v)=true
theorem Emt.refl(en)(first)(s:Em):Emt en first s s [] []:=⟨by simp,by simp,rfl,rfl,by simp,rfl,λv hv=>by simp at hv⟩
theorem Emt.trans{en}{first}{s t u:Em}{vs vs'}{qs qs'}(h:Emt en first s t vs qs)(k:Emt en first t u vs' qs'):Emt en first s u (vs++vs') (qs++qs'):=by
 refine⟨by rw[k.ev,h.ev,List.append_assoc],by rw[k.eq,h.eq,List.append_assoc],by rw[qA,h.nm,k.nm,List.map_append],?_,by rw[k.fr,h.fr];simp;omega,by rw[List.length_append,List.length_append,h.ln,k.ln],λv hv=> ?_⟩
 ·rw[List.map_append,h.ix,k.ix,List.length_append,List.range_add,List.map_append,List.map_map,h.fr];congr 1;refine List.map_congr_left λa _=> ?_;simp only[Function.comp];congr 1;omega
 ·rcases List.mem_append.1 hv with hv|hv
  ·exact h.ty v hv
  ·exact k.ty v hv
def vaF(first:List UInt8)(k:Int)(t:Ty)(on:List dY):Va:=⟨cj first k,t.k,t.e,t.n,on⟩
theorem aft{en}{first}{q}{t}{on}{s:Em}(ht:bq en t=true):
 (kC first q [] t on s).1=cj first (s.fr+1)/\Emt en first s (kC first q [] t on s).2 [vaF first (s.fr+1) t on] [{q with names:=[cj first (s.fr+1)],on:=on}]:=by
 unfold kC;rw[if_pos rfl];exact⟨rfl,rfl,rfl,rfl,by simp[vaF,List.range_one],rfl,rfl,λv hv=>by simp at hv;subst hv;exact ht⟩
theorem Q2(first)(k):cj first k≠[]:=by simp[cj]
def BJ(p:cY)(i:Nat)(on:List dY)(e:Ex):Prop:=(∀c∈on,c.1≠[]/\Vo (nodeAt p i) c.1=true)/\on.length+mX e<=100
theorem T6{e x:Ex}(h:x∈e.ar):mX x+1<=mX e:=by
 rw[Kj e];have key:∀l:List Ex,x∈l->mX x<=mb l:=by
  intro l;induction l with
  |nil=>intro h;simp at h
  |cons y l ih=>
   intro h;rw[mb];rcases List.mem_cons.1 h with e|h
   ·rw[e];omega
   ·have:=ih h;omega
 have:=key _ h;omega
theorem BJ.sub{p}{i}{on}{e x:Ex}(h:BJ p i on e)(hx:x∈e.ar):BJ p i on x:=⟨h.1,by have:=T6 hx;have:=h.2;omega⟩
theorem BJ.snoc{p}{i}{on}{e x:Ex}(h:BJ p i on e)(hx:x∈e.ar){c}(hc:c.1≠[]/\Vo (nodeAt p i) c.1=true):BJ p i (on++[c]) x:=
 ⟨λd hd=>by
  rcases List.mem_append.1 hd with hd|hd
  ·exact h.1 d hd
  ·simp at hd;subst hd;exact hc,by have:=T6 hx;have:=h.2;simp;omega⟩
theorem amF{s}(h:pz s=true):s≠[]:=by intro e;subst e;revert h;decide
theorem Q3{e:Ex}(h:ew e=true)(k:e.kind=3\/e.kind=11\/e.kind=12\/e.kind=13):e.name≠[]:=by simp only[ew,Bool.and_eq_true]at h;have:=h.1.1.1.1.2;unfold Kf at this;rw[if_pos k]at this;exact amF this
section
variable {p:cY} {i:Nat} {n:kZ} {l:jw} {f:Fl}
theorem aax(C:Ctx p i n l f){e:Ex}(he:K1 p i e){on}{t}(hk:1<=e.kind/\e.kind<=4)(hf:c0 p i e on=true)(ht:oV p i e=some t):ky l.enums f (Mt p e) t on:=by
 obtain⟨q1,q2,q3⟩:=he.self;have hna:=fa C.node;rw[iH]at hf;rw[yG]at ht;rw[C.en];unfold Mt;by_cases c3:e.kind=3
 ·rw[if_neg (by omega),if_pos c3]at ht;rw[if_neg (by omega),if_pos c3]at hf;rw[if_neg (by omega),if_pos c3];rw[Option.map_eq_some_iff,hna]at ht;obtain⟨d,h1,rfl⟩:=ht;obtain⟨m1,m2⟩:=oD h1;refine .inr ⟨Q3 q1 (.inl c3),varOf p i d,?_,rfl,?_⟩
  ·rw[<-m2];exact C.dec d m1
  ·have:da p i e.name=some on:=by simpa using hf
   simp only[varOf,m2,this];rfl
 ·rw[if_pos (by omega)]at ht;rw[Option.map_eq_some_iff]at ht;obtain⟨⟨v,t'⟩,h1,rfl⟩:=ht;have hr:=wg C.enL C.enC (λx hx=>(he x hx).2.2) (λx hx=>(he x hx).1) h1;have hv:v=[if e.kind=1\/e.kind=2 then e.n else tQ p e.name]:=by
   unfold cC at h1;split at h1
   ·cases h1
   ·rw[if_pos (by omega)]at h1;rw[Option.map_eq_some_iff]at h1;obtain⟨⟨m,u⟩,h2,h3⟩:=h1;simp only[Prod.mk.injEq]at h3;rw[<-h3.1];unfold abO at h2;by_cases c1:e.kind=1
    ·rw[if_pos c1]at h2;simp at h2;rw[if_pos (.inl c1),h2.1]
    ·rw[if_neg c1]at h2;by_cases c2:e.kind=2
     ·rw[if_pos c2]at h2;simp at h2;rw[if_pos (.inr c2),h2.1]
     ·rw[if_neg c2,if_neg (by omega)]at h2;split at h2
      ·simp at h2;rw[if_neg (by omega),<-h2.1];rfl
      ·cases h2
  rw[hv]at hr;by_cases Mv:e.kind=1\/e.kind=2
  ·rw[if_pos Mv]at hr|-;exact .inl ⟨rfl,hr⟩
  ·rw[if_neg Mv]at hr|-;rw[if_neg c3];exact .inl ⟨rfl,hr⟩
def Wy(p:cY)(i:Nat)(x:Ex)(on:List dY):Prop:=K1 p i x/\BJ p i on x/\c0 p i x on=true/\∃t,oV p i x=some t
def amG(p:cY)(i:Nat)(l:jw)(f:Fl)(x:Ex):Prop:=∀(on:List dY) (first:List UInt8) (st:Em) (t:Ty),Wy p i x on->oV p i x=some t->
 ∃vs qs,Emt l.enums first st (gU p i first x on st).2 vs qs/\((∀v∈vs,fp f v.name=some v)->ky l.enums f (gU p i first x on st).1 t on/\∀q∈qs,IC l i f q)
theorem zl(first):∀(xs:List Ex) (w6:List (Option (List dY))) (st:Em),(∀x∈xs,amG p i l f x)->w6.length=xs.length->(∀(j:Nat) (x:Ex) (on:List dY),xs[j]? =some x->w6[j]? =some (some on)->Wy p i x on)->
 ∃vs qs,Emt l.enums first st (bM p i first xs w6 st).2 vs qs/\(bM p i first xs w6 st).1.length=xs.length/\
  ((∀v∈vs,fp f v.name=some v)->(∀(j:Nat) (x:Ex) (on:List dY) (t:Ty),xs[j]? =some x->w6[j]? =some (some on)->oV p i x=some t->∃a,(bM p i first xs w6 st).1[j]? =some a/\ky l.enums f a t on)/\∀q∈qs,IC l i f q)
 |[],w6,st,_,_,_=>⟨[],[],.refl _ _ _,rfl,λ_=>⟨λj x on t h=>by simp at h,λq hq=>by simp at hq⟩⟩
 |x::xs,[],st,_,hl,_=>by simp at hl
 |x::xs,none::w6,st,hx,hl,hp=>by
  obtain⟨vs,qs,h1,h2,h3⟩:=zl first xs w6 st (λy hy=>hx y (by simp[hy])) (by simpa using hl) (λj y on hy ho=>hp (j+1) y on (by simpa using hy) (by simpa using ho))
  refine⟨vs,qs,h1,by rw[bM];simp[h2],λhv=> ?_⟩;obtain⟨k1,k2⟩:=h3 hv;refine⟨λj y on t hy ho ht=> ?_,k2⟩;cases j with
  |zero=>simp at ho
  |succ j=>
   obtain⟨a,ha,hr⟩:=k1 j y on t (by simpa using hy) (by simpa using ho) ht;exact⟨a,by rw[bM];simpa using ha,hr⟩
 |x::xs,some on::w6,st,hx,hl,hp=>by
  have hpx:=hp 0 x on rfl rfl;obtain⟨t,ht⟩:=hpx.2.2.2;obtain⟨v1,q1,a1,a2⟩:=hx x (by simp) on first st t hpx ht
  obtain⟨vs,qs,h1,h2,h3⟩:=zl first xs w6 (gU p i first x on st).2 (λy hy=>hx y (by simp[hy])) (by simpa using hl) (λj y on hy ho=>hp (j+1) y on (by simpa using hy) (by simpa using ho))
  refine⟨v1++vs,q1++qs,by rw[bM];exact a1.trans h1,by rw[bM];simp[h2],λhv=> ?_⟩;obtain⟨k1,k2⟩:=h3 λv zb=>hv v (by simp[zb]);obtain⟨b1,b2⟩:=a2 λv zb=>hv v (by simp[zb]);refine⟨λj y on' t' hy ho B5=> ?_,λq hq=> ?_⟩
  ·cases j with
   |zero=>
    simp at hy ho;subst hy;subst ho;rw[ht]at B5;injection B5 with B5;subst B5;exact⟨_,by rw[bM];rfl,b1⟩
   |succ j=>
    obtain⟨a,ha,hr⟩:=k1 j y on' t' (by simpa using hy) (by simpa using ho) B5;exact⟨a,by rw[bM];simpa using ha,hr⟩
  ·rcases List.mem_append.1 hq with hq|hq
   ·exact b2 q hq
   ·exact k2 q hq
theorem aay{e:Ex}(h:ew e=true)(on):(mO p e on).length=e.ar.length:=by
 obtain⟨s1,s2,s3,s4,s5,s6,s7⟩:=dF h;unfold mO;split
 ·rename_i k;obtain⟨a,b,hs⟩:=s2 (.inr (.inl k));rw[hs];rfl
 ·split
  ·simp
  ·split
   ·rename_i k;rw[List.length_map];exact(s4 k).1.symm
   ·simp
theorem Q4(C:Ctx p i n l f){e:Ex}(he:K1 p i e){on:List dY}(hc:BJ p i on e)(hf:c0 p i e on=true){t:Ty}(ht:oV p i e=some t\/(e.kind=13/\∃ts,iu p i e=some ts))(j:Nat)(x:Ex)(o:List dY)(hx:e.ar[j]? =some x)(ho:(mO p e on)[j]? =some (some o)):Wy p i x o:=by
 have hm:=List.mem_of_getElem? hx;obtain⟨q1,q2,q3⟩:=he.self;obtain⟨s1,s2,s3,s4,s5,s6,s7⟩:=dF q1;have hk:5<=e.kind:=by
  rcases Int.lt_or_le e.kind 5 with c|c
  ·exfalso;have hk:=ni q1;have:qZ e=(0,0):=by unfold qZ;rw[if_neg (by omega),if_neg (by omega),if_neg (by omega),if_neg (by omega),if_neg (by omega),if_neg (by omega)]
   rw[this]at hk;have hl:e.ar=[]:=List.eq_nil_of_length_eq_zero (by have:=hk.2.2.2;simp at this;omega);rw[hl]at hm;simp at hm
  ·exact c
 rw[iH,if_neg (by omega),if_neg (by omega)]at hf;have fj:∃t',oV p i x=some t':=by
  by_cases k8:e.kind=8
  ·rcases ht with ht|⟨ht,_⟩
   ·rw[yG,if_neg (by omega),if_neg (by omega),if_pos k8]at ht;obtain⟨a,b,hs⟩:=s2 (.inr (.inl k8));rw[hs]at ht hx;unfold mO at ho;rw[if_pos k8,hs]at ho;cases j with
    |zero=>simp at ho
    |succ j=>
     cases j with
     |zero=>
      simp at hx;subst hx;split at ht
      ·rename_i c u h1 h2;simp at h2;exact⟨u,h2⟩
      ·cases ht
     |succ j=>simp at hx
   ·omega
  ·have j9:∃ts,iu p i e=some ts:=by
    rcases ht with ht|⟨_,ht⟩
    ·rw[yG,if_neg (by omega),if_neg (by omega),if_neg k8]at ht;split at ht
     ·cases ht
     ·split at ht
      ·cases ht
      ·rename_i ts uS;exact⟨ts,uS⟩
    ·exact ht
   obtain⟨ts,uS⟩:=j9;obtain⟨t',h1,_⟩:=(yF uS).2 j x hx;exact⟨t',h1⟩
 refine⟨he.sub hm,?_,?_,fj⟩
 ·unfold mO at ho;split at ho
  ·cases j with
   |zero=>simp at ho
   |succ j=>
    simp only[List.getElem?_cons_succ,List.getElem?_map]at ho;cases q:(e.ar.drop 1)[j]? with
    |none=>rw[q]at ho;simp at ho
    |some y=>rw[q]at ho;simp at ho;subst ho;exact hc.sub hm
  ·split at ho
   ·rw[List.getElem?_map,hx]at ho;simp at ho;subst ho;have:=hc.sub hm;exact⟨λc jg=>this.1 c (List.dropLast_subset _ jg),by have:=this.2;simp;omega⟩
   ·split at ho
    ·rename_i AD;rw[List.getElem?_map]at ho;cases q:e.arms[j]? with
     |none=>rw[q]at ho;simp at ho
     |some y=>
      rw[q]at ho;simp at ho;subst ho;refine hc.snoc hm ⟨Q3 q1 (by omega),?_⟩;cases hv:Vo (nodeAt p i) e.name with
      |true=>rfl
      |false=>
       have:=q2;unfold oy at this;rw[if_pos ⟨.inr (.inr AD),hv⟩]at this;cases this
    ·rw[List.getElem?_map,hx]at ho;simp at ho;subst ho;exact hc.sub hm
 ·unfold mO at ho;by_cases k8:e.kind=8
  ·rw[if_pos k8]at ho hf;obtain⟨a,b,hs⟩:=s2 (.inr (.inl k8));rw[hs]at ho hf hx;cases j with
   |zero=>simp at ho
   |succ j=>
    cases j with
    |zero=>
     simp at ho hx;subst ho;subst hx;simp only[ng,Bool.and_eq_true]at hf;simpa using hf.2
    |succ j=>simp at hx
  rw[if_neg k8]at ho hf;by_cases M6:e.kind=11
  ·rw[if_pos M6]at ho hf;obtain⟨a,hs⟩:=s1 (.inr (.inr M6));split at hf
   ·cases hf
   ·rename_i row pJ;simp only[Bool.and_eq_true,beq_iff_eq]at hf;rw[hs]at ho hf hx;cases j with
    |zero=>
     simp at ho hx;subst ho;subst hx;have e1:on.dropLast=row:=by rw[hf.1.2];simp
     rw[e1];simpa[ng]using hf.2
    |succ j=>simp at hx
  rw[if_neg M6]at ho hf;by_cases AD:e.kind=12
  ·rw[if_pos AD]at ho hf;simp only[Bool.and_eq_true,beq_iff_eq]at hf;rw[List.getElem?_map]at ho;cases q:e.arms[j]? with
   |none=>rw[q]at ho;simp at ho
   |some y=>
    rw[q]at ho;simp at ho;subst ho;exact amj hf.2 (Qz hx (by rw[List.getElem?_map,q];rfl))
  rw[if_neg AD]at ho hf;by_cases k17:e.kind=17
  ·rw[if_pos k17]at hf;cases hf
  rw[if_neg k17]at hf;rw[List.getElem?_map,hx]at ho;simp at ho;subst ho;exact amj hf (Qz hx (by rw[List.getElem?_map,hx];rfl))
end
section
variable {p:cY} {i:Nat} {n:kZ} {l:jw} {f:Fl}
theorem IM{α}{l:List α}{k}{d x:α}(h:l[k]? =some x):l.getD k d=x:=by rw[List.getD_eq_getElem?_getD,h];rfl
def aaz(p:cY)(i:Nat)(l:jw)(f:Fl)(e:Ex)(on:List dY)(ats:List xx):Prop:=ats.length=e.ar.length/\
 ∀(j:Nat) (x:Ex) (o:List dY) (t:Ty),e.ar[j]? =some x->(mO p e on)[j]? =some (some o)->oV p i x=some t->∃a,ats[j]? =some a/\ky l.enums f a t o
theorem aaz.plain{e:Ex}{on}{ats:List xx}(h:aaz p i l f e on ats)(k:e.kind≠8/\e.kind≠11/\e.kind≠12){ts:List Ty}(uS:iu p i e=some ts):
 ats.length=ts.length/\∀(j:Nat) (t:Ty),ts[j]? =some t->∃a,ats[j]? =some a/\ky l.enums f a t on:=by
 obtain⟨h1,h2⟩:=yF uS;refine⟨h.1.trans h1.symm,λj t ht=> ?_⟩;have hj:j<e.ar.length:=by rw[<-h1];exact(List.getElem?_eq_some_iff.1 ht).1
 have hx:=List.getElem?_eq_getElem hj;obtain⟨t',g1,g2⟩:=h2 j _ hx;rw[ht]at g2;injection g2 with g2;subst g2;refine h.2 j _ on t hx ?_ g1;unfold mO;rw[if_neg k.1,if_neg k.2.1,if_neg k.2.2,List.getElem?_map,hx];rfl
def qOf(q:Pl)(nm:List (List UInt8))(on:List dY):Pl:={q with names:=nm,on:=on}
theorem afu(C:Ctx p i n l f){e:Ex}(he:K1 p i e){on}(hc:BJ p i on e)(hf:c0 p i e on=true){t}(ht:oV p i e=some t)(hk:e.kind≠13){ats}(ha:aaz p i l f e on ats){first}{fr}
 (h9:e.kind=9->ky l.enums f (cj first fr,0) tB on) (nm):amn l.enums f (qOf (xy p i first e ats fr) nm on) t:=by
 obtain⟨q1,q2,q3⟩:=he.self;obtain⟨s1,s2,s3,s4,s5,s6,s7⟩:=dF q1;have aAe:=ni q1;have hna:=fa C.node;rcases Int.lt_or_le e.kind 5 with c5|c5
 ·have hm:xy p i first e ats fr=zR 1 [Mt p e]:=by unfold xy;rw[if_neg (by omega),if_neg (by omega),if_neg (by omega),if_neg (by omega),if_neg (by omega),if_neg (by omega),if_neg (by omega),if_neg (by omega),if_neg (by omega),if_neg (by omega),if_neg (by omega),if_neg (by omega)]
  rw[hm];exact .copy (Mt p e) on rfl rfl (.inl rfl) (aax C he ⟨aAe.1,by omega⟩ hf ht)
 by_cases k8:e.kind=8
 ·have hm:xy p i first e ats fr={zR 5 (ats.drop 1)with init:=((cC p.en (e.ar.getD 0 default)).map (·.1)).getD []}:=by unfold xy;rw[if_neg (by omega),if_neg (by omega),if_neg (by omega),if_neg (by omega),if_neg (by omega),if_neg (by omega),if_neg (by omega),if_pos k8]
  obtain⟨a,b,hs⟩:=s2 (.inr (.inl k8));have B5:=ht;rw[yG,if_neg (by omega),if_neg (by omega),if_pos k8,hs]at B5;split at B5
  ·rename_i c u h1 h2;split at B5
   ·rename_i h3;injection B5 with B5;subst B5;simp at h1 h2;obtain⟨x,hx,hr⟩:=ha.2 1 b on u (by rw[hs];rfl) (by unfold mO;rw[if_pos k8,hs];rfl) h2;have hl:=ha.1;rw[hs]at hl;obtain⟨y,z,hyz⟩:=X4 hl;rw[hyz]at hx;simp at hx;subst hx;rw[hm,hyz,hs];refine .fby z rfl rfl hr ?_;have hcr:=wg C.enL C.enC (λx hx=>(he.sub (x:=a) (by rw[hs];simp) x hx).2.2) (λx hx=>(he.sub (x:=a) (by rw[hs];simp) x hx).1) (e:=a) (v:=c.1) (t:=c.2) h1;rw[C.en,<-h3];simpa[qOf,h1]using hcr
   ·cases B5
  ·cases B5
 have k17:e.kind≠17:=λk=>by rw[yG,if_neg (by omega),if_neg (by omega),if_neg k8,if_pos k]at ht;cases ht
 have uS:∃ts,iu p i e=some ts/\(if 9<=e.kind/\e.kind<=13 then AW p i e ts else rW e ts)=some t:=by
  rw[yG,if_neg (by omega),if_neg (by omega),if_neg k8,if_neg k17]at ht;split at ht
  ·cases ht
  ·rename_i ts uS;exact⟨ts,uS,ht⟩
 obtain⟨ts,uS,fj⟩:=uS;obtain⟨tl1,tl2⟩:=yF uS;by_cases M6:e.kind=11
 ·have hm:xy p i first e ats fr=zR 1 ats:=by unfold xy;rw[if_neg (by omega),if_neg (by omega),if_neg (by omega),if_neg (by omega),if_neg (by omega),if_neg (by omega),if_neg (by omega),if_neg (by omega),if_neg (by omega),if_neg (by omega),if_pos M6]
  obtain⟨a,hs⟩:=s1 (.inr (.inr M6));rw[if_pos (by omega)]at fj;unfold AW at fj;rw[if_neg (by omega),if_neg (by omega),if_pos M6]at fj;split at fj
  ·rename_i d hd;split at fj
   ·injection fj with fj;obtain⟨t0,g1,g2⟩:=tl2 0 a (by rw[hs];rfl);rw[IM g2]at fj;subst fj;obtain⟨x,hx,hr⟩:=ha.2 0 a on.dropLast t0 (by rw[hs];rfl) (by unfold mO;rw[if_neg (by omega),if_pos M6,hs];rfl) g1;have hl:=ha.1;rw[hs]at hl;obtain⟨y,hyz⟩:=List.length_eq_one_iff.1 hl;rw[hyz]at hx;simp at hx;subst hx;rw[hm,hyz];refine .copy y on.dropLast rfl rfl (.inr ?_) hr;rw[iH,if_neg (by omega),if_neg (by omega),if_neg k8,if_pos M6]at hf;split at hf
    ·cases hf
    ·rename_i row pJ;simp only[Bool.and_eq_true,beq_iff_eq]at hf;exact⟨(e.name,(fA p.en (e.arms.getD 0 [])).2.1),by rw[show(qOf (zR 1 [y]) nm on).on=on from rfl,hf.1.2];simp⟩
   ·cases fj
  ·cases fj
 by_cases AD:e.kind=12
 ·have hm:xy p i first e ats fr=zR 6 ((e.name,0)::ats):=by unfold xy;rw[if_neg (by omega),if_neg (by omega),if_neg (by omega),if_neg (by omega),if_neg (by omega),if_neg (by omega),if_neg (by omega),if_neg (by omega),if_neg (by omega),if_neg (by omega),if_neg (by omega),if_pos AD]
  rw[if_pos (by omega)]at fj;unfold AW at fj;rw[if_neg (by omega),if_neg (by omega),if_neg (by omega),if_pos AD]at fj;rw[iH,if_neg (by omega),if_neg (by omega),if_neg k8,if_neg (by omega),if_pos AD]at hf;simp only[Bool.and_eq_true,beq_iff_eq]at hf;have pJ:=hf.1.1.1;split at fj
  ·rename_i d hd;rw[hna]at hd;split at fj
   ·rename_i mn;injection fj with fj;simp only[Bool.and_eq_true]at mn;obtain⟨m1,m2⟩:=oD hd;have adO:fp f e.name=some (varOf p i d):=by rw[<-m2];exact C.dec d m1
    have awH:(varOf p i d).on=on:=by simp only[varOf,m2,pJ];rfl
    have bw:=Q3 q1 (.inr (.inr (.inl AD)));have aj2:∀(j:Nat) (t':Ty),ts[j]? =some t'->t'=t:=λj t' h=>by have:=List.all_eq_true.1 mn.1 t' (List.mem_of_getElem? h);rw[decide_eq_true_eq]at this;rw[this,<-fj]
    have Gz:∀(j:Nat) (c:List UInt8),e.arms[j]? =some c->∃a,ats[j]? =some a/\ky l.enums f a t (on++[(e.name,tQ p c)]):=λj c hcj=>by
     have hj:j<e.ar.length:=by rw[(s4 AD).1];exact(List.getElem?_eq_some_iff.1 hcj).1
     have hx:=List.getElem?_eq_getElem hj;obtain⟨t',g1,g2⟩:=tl2 j _ hx;have:=aj2 j t' g2;subst this;exact ha.2 j _ _ t' hx (by unfold mO;rw[if_neg k8,if_neg (by omega),if_pos AD,List.getElem?_map,hcj];rfl) g1
    unfold Dr at mn;rw[hm];by_cases htr:jF d.ty=true
    ·rw[if_pos htr]at mn;have T7:e.arms=[[116,114,117,101],[102,97,108,115,101]]:=by simpa using mn.2
     have hl:=ha.1;rw[(s4 AD).1,T7]at hl;obtain⟨a,b,hab⟩:=X4 hl;obtain⟨x,hx,hr⟩:=Gz 0 [116,114,117,101] (by rw[T7];rfl);obtain⟨y,hy,qB⟩:=Gz 1 [102,97,108,115,101] (by rw[T7];rfl);rw[hab]at hx hy;simp at hx hy;subst hx;subst hy;rw[hab];have v1:tQ p [116,114,117,101]=1:=by simp[tQ,fA]
     have v0:tQ p [102,97,108,115,101]=0:=by simp[tQ,fA]
     rw[v1]at hr;rw[v0]at qB;have hdt:d.ty=tB:=by simpa[jF,tB]using htr
     exact .F7 e.name (varOf p i d) a b rfl rfl bw adO awH (by simp only[z3,varOf,hdt]) hr qB
    ·rw[if_neg htr]at mn;split at mn
     ·exact absurd mn.2 (by simp)
     rename_i hkn;have T7:e.arms=(p.en.getD d.ty.e.toNat default).ct:=by simpa using mn.2
     have h3:d.ty.k=3/\d.ty.n=0:=by omega
     refine .F8 e.name (varOf p i d) ats rfl rfl bw adO awH h3 ?_ λj a hja=> ?_
     ·rw[ha.1,(s4 AD).1,T7,C.en];rfl
     ·have hj:j<e.arms.length:=by rw[<-(s4 AD).1,<-ha.1];exact(List.getElem?_eq_some_iff.1 hja).1
      have hcj:=List.getElem?_eq_getElem hj;obtain⟨x,hx,hr⟩:=Gz j _ hcj;rw[hja]at hx;injection hx with hx;subst hx;have aAh:=(Cg C.nod m1).1;simp only[bq,h3.1,if_true,Bool.and_eq_true,decide_eq_true_eq]at aAh;have hen:=List.getElem?_eq_getElem (show d.ty.e.toNat<p.en.length by omega);have hct:(p.en[d.ty.e.toNat]'(by omega)).ct[j]? =some e.arms[j]:=by have:(p.en.getD d.ty.e.toNat default)=p.en[d.ty.e.toNat]'(by omega):=IM hen;rw[<-this,<-T7];exact hcj
      rw[ahJ C.aww hen hct]at hr;exact hr
   ·cases fj
  ·cases fj
 obtain⟨pl1,pl2⟩:=ha.plain ⟨k8,M6,AD⟩ uS;have one:∀a,e.ar=[a]->∃x t0,ts=[t0]/\ats=[x]/\ky l.enums f x t0 on:=λa hs=>by rw[hs]at tl1;obtain⟨t0,h0⟩:=List.length_eq_one_iff.1 tl1;rw[h0]at pl1 pl2;obtain⟨x,hx⟩:=List.length_eq_one_iff.1 pl1;obtain⟨y,hy,hr⟩:=pl2 0 t0 rfl;rw[hx]at hy;simp at hy;subst hy;exact⟨x,t0,h0,hx,hr⟩
 have two:∀a b,e.ar=[a,b]->∃x y t0 t1,ts=[t0,t1]/\ats=[x,y]/\ky l.enums f x t0 on/\ky l.enums f y t1 on:=λa b hs=>by rw[hs]at tl1;obtain⟨t0,t1,h0⟩:=X4 tl1;rw[h0]at pl1 pl2;obtain⟨x,y,hx⟩:=X4 pl1;obtain⟨x',re,hr⟩:=pl2 0 t0 rfl;obtain⟨y',hy',qB⟩:=pl2 1 t1 rfl;rw[hx]at re hy';simp at re hy';subst re;subst hy';exact⟨x,y,t0,t1,h0,hx,hr,qB⟩
 have three:∀a b c,e.ar=[a,b,c]->∃x y z t0 t1 t2,ts=[t0,t1,t2]/\ats=[x,y,z]/\ky l.enums f x t0 on/\ky l.enums f y t1 on/\ky l.enums f z t2 on:=λa b c hs=>by rw[hs]at tl1;obtain⟨t0,t1,t2,h0⟩:=aj8 tl1;rw[h0]at pl1 pl2;obtain⟨x,y,z,hx⟩:=aj8 pl1;obtain⟨x',re,hr⟩:=pl2 0 t0 rfl;obtain⟨y',hy',qB⟩:=pl2 1 t1 rfl;obtain⟨z',WN,amH⟩:=pl2 2 t2 rfl;rw[hx]at re hy' WN;simp at re hy' WN;subst re;subst hy';subst WN;exact⟨x,y,z,t0,t1,t2,h0,hx,hr,qB,amH⟩
 by_cases k5:e.kind=5
 ·have hm:xy p i first e ats fr={zR 2 ats with op:=e.op}:=by unfold xy;rw[if_pos k5]
  obtain⟨a,hs⟩:=s1 (.inl k5);obtain⟨x,t0,h0,hx,hr⟩:=one a hs;rw[if_neg (by omega)]at fj;unfold rW at fj;rw[if_pos k5,h0]at fj;split at fj
  ·rename_i h1;injection fj with fj;rw[hm,hx];refine .un x t0 rfl rfl hr ?_;show vz e.op t0=(t,true);simp only[List.getD_cons_zero]at h1 fj;rw[<-fj,<-h1]
  ·cases fj
 by_cases k6:e.kind=6
 ·have hm:xy p i first e ats fr={zR 3 ats with op:=e.op}:=by unfold xy;rw[if_neg k5,if_pos k6]
  obtain⟨a,b,hs⟩:=s2 (.inl k6);obtain⟨x,y,t0,t1,h0,hx,hr,qB⟩:=two a b hs;rw[if_neg (by omega)]at fj;unfold rW at fj;rw[if_neg k5,if_pos k6,h0]at fj;split at fj
  ·rename_i h1;injection fj with fj;rw[hm,hx];refine .bin x y t0 t1 rfl rfl hr qB ?_;show dB e.op t0 t1=(t,true);simp only[List.getD_cons_zero,List.getD_cons_succ]at h1 fj;rw[<-fj,<-h1]
  ·cases fj
 by_cases k7:e.kind=7
 ·have hm:xy p i first e ats fr=zR 4 ats:=by unfold xy;rw[if_neg k5,if_neg k6,if_pos k7]
  obtain⟨a,b,c,hs⟩:=s3 (.inl k7);obtain⟨x,y,z,t0,t1,t2,h0,hx,hr,qB,amH⟩:=three a b c hs;rw[if_neg (by omega)]at fj;unfold rW at fj;rw[if_neg k5,if_neg k6,if_pos k7,h0]at fj;split at fj
  ·rename_i h1;injection fj with fj;simp only[List.getD_cons_zero,List.getD_cons_succ]at h1 fj;obtain⟨h1,h2⟩:=h1;subst fj;have h3:t0=tB:=by simpa[jF,tB]using h1
   rw[hm,hx];exact .ite x y z rfl rfl (h3▸hr) qB (h2▸amH)
  ·cases fj
 by_cases XJ:e.kind=14
 ·have hm:xy p i first e ats fr=zR 8 ats:=by unfold xy;rw[if_neg k5,if_neg k6,if_neg k7,if_pos XJ]
  rw[if_neg (by omega)]at fj;unfold rW at fj;rw[if_neg k5,if_neg k6,if_neg k7,if_pos XJ]at fj;split at fj
  ·rename_i h1;injection fj with fj;have hl:=s6 XJ;rw[hm];refine .arr rfl ?_ (λa ha'=> ?_) ?_
   ·show(ats.length:Int)=t.n;rw[<-fj,pl1]
   ·obtain⟨j,hj⟩:=List.getElem?_of_mem (show a∈ats from ha');have Jj:j<ts.length:=by rw[<-pl1];exact(List.getElem?_eq_some_iff.1 hj).1
    obtain⟨b,hb,hr⟩:=pl2 j _ (List.getElem?_eq_getElem Jj);rw[hj]at hb;injection hb with hb;subst hb;have mn:ts[j]=ts.getD 0 default:=by have:=List.all_eq_true.1 h1.1 ts[j] (List.getElem_mem Jj);rwa[decide_eq_true_eq]at this
    rw[mn]at hr;have hu:unT t=ts.getD 0 default:=by rw[<-fj];unfold unT;generalize ts.getD 0 default=t0 at*;obtain⟨x1,x2,x3⟩:=t0;simp only at h1|-;rw[h1.2]
    rw[hu];exact hr
   ·rw[<-fj];simp only;omega
  ·cases fj
 by_cases k15:e.kind=15
 ·have hm:xy p i first e ats fr=zR 9 ats:=by unfold xy;rw[if_neg k5,if_neg k6,if_neg k7,if_neg XJ,if_pos k15]
  obtain⟨a,b,hs⟩:=s2 (.inr (.inr (.inr k15)));obtain⟨x,y,t0,t1,h0,hx,hr,qB⟩:=two a b hs;rw[if_neg (by omega)]at fj;unfold rW at fj;rw[if_neg k5,if_neg k6,if_neg k7,if_neg XJ,if_pos k15,h0]at fj;split at fj
  ·rename_i h1;injection fj with fj;simp only[List.getD_cons_zero,List.getD_cons_succ]at h1 fj;have h3:t1=tI:=by simpa[qH,tI]using h1.2
   rw[hm,hx];exact .at_ x y t0 rfl rfl hr h1.1 (h3▸qB) fj.symm
  ·cases fj
 by_cases k16:e.kind=16
 ·have hm:xy p i first e ats fr=zR 10 ats:=by unfold xy;rw[if_neg k5,if_neg k6,if_neg k7,if_neg XJ,if_neg k15,if_pos k16]
  obtain⟨a,b,c,hs⟩:=s3 (.inr k16);obtain⟨x,y,z,t0,t1,t2,h0,hx,hr,qB,amH⟩:=three a b c hs;rw[if_neg (by omega)]at fj;unfold rW at fj;rw[if_neg k5,if_neg k6,if_neg k7,if_neg XJ,if_neg k15,h0]at fj;split at fj
  ·rename_i h1;injection fj with fj;simp only[List.getD_cons_zero,List.getD_cons_succ]at h1 fj;subst fj;have h3:t1=tI:=by simpa[qH,tI]using h1.2.1
   rw[hm,hx];exact .set x y z rfl rfl hr h1.1 (h3▸qB) (h1.2.2▸amH)
  ·cases fj
 by_cases WD:e.kind=10
 ·have hm:xy p i first e ats fr={zR 5 ats with init:=zeroV ((oV p i e).getD ⟨0,0,0⟩)}:=by unfold xy;rw[if_neg k5,if_neg k6,if_neg k7,if_neg XJ,if_neg k15,if_neg k16,if_neg hk,if_neg k8,if_pos WD]
  obtain⟨a,hs⟩:=s1 (.inr (.inl WD));obtain⟨x,t0,h0,hx,hr⟩:=one a hs;rw[if_pos (by omega)]at fj;unfold AW at fj;rw[if_neg (by omega),if_pos WD,h0]at fj;injection fj with fj;simp only[List.getD_cons_zero]at fj;subst fj;rw[hm,hx,ht];refine .fby x rfl rfl hr ?_;rw[C.en];exact apm C.aww (aaj C.node C.all C.enL C.enC e he _ ht)
 ·have k9:e.kind=9:=by omega
  have hm:xy p i first e ats fr=zR 4 ((cj first fr,0)::ats):=by unfold xy;rw[if_neg k5,if_neg k6,if_neg k7,if_neg XJ,if_neg k15,if_neg k16,if_neg hk,if_neg k8,if_neg WD,if_pos k9]
  obtain⟨a,b,hs⟩:=s2 (.inr (.inr (.inl k9)));obtain⟨x,y,t0,t1,h0,hx,hr,qB⟩:=two a b hs;rw[if_pos (by omega)]at fj;unfold AW at fj;rw[if_pos k9,h0]at fj;split at fj
  ·rename_i h1;injection fj with fj;simp only[List.getD_cons_zero,List.getD_cons_succ]at h1 fj;subst fj;rw[hm,hx];exact .ite (cj first fr,0) x y rfl rfl (h9 k9) hr (h1▸qB)
  ·cases fj
end
section
variable {p:cY} {i:Nat} {n:kZ} {l:jw} {f:Fl}
theorem T8(C:Ctx p i n l f){e:Ex}(he:K1 p i e){on}(Cy:e.kind=13){ts}(uS:iu p i e=some ts){k}(hk:ra p e ts=some k){ats}(ha:aaz p i l f e on ats){first}{fr}{nm:List (List UInt8)}
 (hl:nm.length=(nodeAt p k).outs.length) (ho:∀(j:Nat) (s:List UInt8) (d:rN),nm[j]? =some s->(nodeAt p k).outs[j]? =some d->uQ f s=d.ty):aqC l i f (qOf (xy p i first e ats fr) nm on):=by
 obtain⟨q1,q2,q3⟩:=he.self;obtain⟨s1,s2,s3,s4,s5,s6,s7⟩:=dF q1;obtain⟨c1,c2,c3,c4⟩:=AU hk;obtain⟨tl1,tl2⟩:=yF uS;obtain⟨pl1,pl2⟩:=ha.plain ⟨by omega,by omega,by omega⟩ uS;obtain⟨m1,m2,m3⟩:=s5 Cy;obtain⟨g,hg⟩:=xD c1;rw[fa hg]at c2 c4 hl ho;obtain⟨f1,f2⟩:=C.fl k g hg;have fM:0<=iR p e.name/\iR p e.name<i:=by
  have:=q2;unfold oy at this;split at this
  ·cases this
  split at this
  ·cases this
  simp only[Cy,Int.reduceEq,if_false,Bool.and_eq_true,decide_eq_true_eq]at this;exact this
 have hti:∀d:rN,z3 (varOf p k d)=d.ty:=λd=>rfl;have kJ:∀(r:List xx),r=ats.take (e.ar.length-e.n.toNat)->r.length=(ad l (iR p e.name)).ins.length/\∀(j:Nat) (a:xx) (d:Va),r[j]? =some a->(ad l (iR p e.name)).ins[j]? =some d->ky l.enums f a (z3 d) on:=by
  intro r hr;rw[c1,f1];have hrl:r.length=g.ins.length:=by rw[hr,List.length_take,pl1,tl1];omega
  refine⟨by rw[List.length_map];exact hrl,λj a d hj hd=> ?_⟩;rw[List.getElem?_map]at hd;cases hdd:g.ins[j]? with
  |none=>rw[hdd]at hd;simp at hd
  |some d'=>
   rw[hdd]at hd;simp at hd;subst hd;have hjl:j<ts.length:=by have:=(List.getElem?_eq_some_iff.1 hdd).1;omega
   obtain⟨b,hb,hbr⟩:=pl2 j _ (List.getElem?_eq_getElem hjl);have hja:ats[j]? =some a:=by
    rw[hr,List.getElem?_take]at hj;split at hj
    ·exact hj
    ·cases hj
   rw[hja]at hb;injection hb with hb;subst hb;have hz:(d',ts[j])∈g.ins.zip ts:=by refine List.mem_of_getElem? (i:=j) ?_;rw[List.getElem?_zip_eq_some];exact⟨hdd,List.getElem?_eq_getElem hjl⟩
   have:=List.all_eq_true.1 c4 _ hz;rw[decide_eq_true_eq]at this;rw[hti,this];exact hbr
 have ams:nm.length=(ad l (iR p e.name)).outs.length:=by rw[c1,f2,List.length_map];exact hl
 have aqJ:∀(j:Nat) (s:List UInt8) (d:Va),nm[j]? =some s->(ad l (iR p e.name)).outs[j]? =some d->uQ f s=z3 d:=λj s d hs hd=>by
  rw[c1,f2,List.getElem?_map]at hd;cases hdd:g.outs[j]? with
  |none=>rw[hdd]at hd;simp at hd
  |some d'=>
   rw[hdd]at hd;simp at hd;subst hd;rw[hti];exact ho j s d' hs hdd
 have hm:∀h:e.n=1\/e.n=0,xy p i first e ats fr=if e.n=1 then{zR 7 (ats.take (e.ar.length-1))with node:=iR p e.name,reset:=true,ev:=(ats.getD (e.ar.length-1) ([],0)).1,en:=(ats.getD (e.ar.length-1) ([],0)).2}
  else{zR 7 ats with node:=iR p e.name}:=λ_=>by
  unfold xy;rw[if_neg (by omega),if_neg (by omega),if_neg (by omega),if_neg (by omega),if_neg (by omega),if_neg (by omega),if_pos Cy]
 rw[hm m3.symm];by_cases n1:e.n=1
 ·rw[if_pos n1];obtain⟨r1,r2⟩:=kJ (ats.take (e.ar.length-1)) (by rw[n1];rfl);refine⟨rfl,fM,r1,r2,ams,aqJ,λ_=> ?_⟩;show ky l.enums f ((ats.getD (e.ar.length-1) ([],0)).1,(ats.getD (e.ar.length-1) ([],0)).2) tB on;have hj:e.ar.length-1<ts.length:=by rw[tl1];omega
  obtain⟨b,hb,hbr⟩:=pl2 (e.ar.length-1) _ (List.getElem?_eq_getElem hj);rw[IM hb];have h3:=c3 n1;rw[n1,tl1]at h3;rw[IM (List.getElem?_eq_getElem (by rw[tl1]at hj;rw[tl1];exact hj):ts[e.ar.length-(1:Int).toNat]? =some _)]at h3;have:ts[e.ar.length-1]=tB:=by simpa[jF,tB]using h3
  rw[this]at hbr;exact hbr
 ·rw[if_neg n1];have n0:e.n=0:=by omega
  obtain⟨r1,r2⟩:=kJ ats (by rw[n0];simp only[Int.toNat_zero,Nat.sub_zero];exact(List.take_of_length_le (by rw[ha.1];exact Nat.le_refl _)).symm);exact⟨rfl,fM,r1,r2,ams,aqJ,λhr=>by cases hr⟩
theorem as9{c:Prop} [Decidable c]{a b:Pl}(h:a.args.length<=1000)(k:b.args.length<=1000):(if c then a else b).args.length<=1000:=by split<;>assumption
def rsP(q:Pl):Prop:=(q.reset=true->q.kind=7)/\(q.init≠[]->q.kind=5)
theorem ata{c:Prop} [Decidable c]{a b}(h:rsP a)(k:rsP b):rsP (if c then a else b):=by split<;>assumption
theorem T9{e}{ats}{first}{fr}:rsP (xy p i first e ats fr):=by
 unfold xy;repeat' (with_reducible refine ata ?_ ?_)
 all_goals(refine⟨λh=> ?_,λh=> ?_⟩<;>first|rfl|(cases h;done)|exact absurd rfl h)
theorem Wz(C:Ctx p i n l f){s}(h:Vo (nodeAt p i) s=true):∃v,fp f s=some v:=by
 rw[fa C.node]at h;unfold Vo at h;cases q:eT n s with
 |none=>rw[q]at h;simp at h
 |some d=>
  obtain⟨h1,h2⟩:=oD q;exact⟨varOf p i d,h2▸C.dec d h1⟩
theorem aaA{e:Ex}(h:ew e=true){ats:List xx}(hl:ats.length=e.ar.length){first}{fr}:(xy p i first e ats fr).args.length<=1000:=by
 obtain⟨s1,s2,s3,s4,s5,s6,s7⟩:=dF h;unfold xy;have hd:(ats.drop 1).length<=ats.length:=by simp
 have ht:(ats.take (e.ar.length-1)).length<=ats.length:=by simp;omega
 repeat' (with_reducible refine as9 ?_ ?_)
 all_goals(simp only[zR,List.length_cons,List.length_nil]at*;omega)
theorem Q5(C:Ctx p i n l f){e:Ex}(j9:∀x∈e.ar,amG p i l f x)(he:K1 p i e){on}(hc:BJ p i on e)(hf:c0 p i e on=true)(ht:(∃t,oV p i e=some t)\/(e.kind=13/\∃ts,iu p i e=some ts))(first)(st:Em):
 ∃vs qs ats fr,Emt l.enums first st (lT p i first e on st).2 vs qs/\(lT p i first e on st).1=xy p i first e ats fr/\ats.length=e.ar.length/\
  ((∀v∈vs,fp f v.name=some v)->aaz p i l f e on ats/\(e.kind=9->ky l.enums f (cj first fr,0) tB on)/\∀q∈qs,IC l i f q):=by
 obtain⟨q1,q2,q3⟩:=he.self;have amI:∀(j:Nat) (x:Ex) (o:List dY),e.ar[j]? =some x->(mO p e on)[j]? =some (some o)->Wy p i x o:=λj x o hx ho=>by
  rcases ht with⟨t,ht⟩|ht
  ·exact Q4 C he hc hf (.inl ht) j x o hx ho
  ·exact Q4 C he hc hf (t:=default) (.inr ht) j x o hx ho
 unfold lT jA;by_cases k9:e.kind=9
 ·rw[if_pos k9];obtain⟨e1,e2⟩:=aft (en:=l.enums) (first:=first) (q:={zR 5 [([],0)]with init:=[1]}) (t:=⟨2,0,0⟩) (on:=on) (s:=st) (yf _);obtain⟨vs,qs,h1,h2,h3⟩:=zl (l:=l) (f:=f) first e.ar (mO p e on) (kC first {zR 5 [([],0)]with init:=[1]} [] ⟨2,0,0⟩ on st).2 j9 (aay q1 on) amI
  have hfr:(kC first {zR 5 [([],0)]with init:=[1]} [] ⟨2,0,0⟩ on st).2.fr=st.fr+1:=rfl;refine⟨_,_,_,st.fr+1,e2.trans h1,by rw[hfr],h2,λhv=> ?_⟩;have hv0:=hv (vaF first (st.fr+1) ⟨2,0,0⟩ on) (by simp);have h9:ky l.enums f (cj first (st.fr+1),0) tB on:= .inr ⟨Q2 _ _,_,hv0,rfl,rfl⟩;obtain⟨k1,k2⟩:=h3 λv zb=>hv v (List.mem_append.2 (.inr zb));refine⟨⟨h2,k1⟩,λ_=>h9,λq hq=> ?_⟩;rcases List.mem_append.1 hq with hq|hq
  ·simp at hq;subst hq;refine⟨by simp,λs hs=> ?_,λc jg=>⟨(hc.1 c jg).1,Wz C (hc.1 c jg).2⟩,⟨by have:=hc.2;have:=Pm e;simp only;omega,by simp[zR],by simp⟩,⟨λh=>(by cases h),λ_=>rfl⟩,.inl ⟨rfl,?_⟩⟩
   ·simp at hs;subst hs;exact⟨_,hv0,rfl⟩
   ·have:uQ f (aD {zR 5 [([],0)]with init:=[1],names:=[cj first (st.fr+1)],on:=on})=tB:=by unfold uQ aD;simp only[List.getD_cons_zero];rw[show fp f (cj first (st.fr+1))=some (vaF first (st.fr+1) ⟨2,0,0⟩ on) from hv0];rfl
    rw[this];exact .fby ([],0) rfl rfl (.inl ⟨rfl,RI.bool (.inl rfl)⟩) (RI.bool (.inr rfl))
  ·exact k2 q hq
 ·rw[if_neg k9];obtain⟨vs,qs,h1,h2,h3⟩:=zl (l:=l) (f:=f) first e.ar (mO p e on) st j9 (aay q1 on) amI
  refine⟨vs,qs,_,st.fr,h1,rfl,h2,λhv=> ?_⟩;obtain⟨k1,k2⟩:=h3 hv;exact⟨⟨h2,k1⟩,λh=>absurd h k9,k2⟩
theorem ah1(C:Ctx p i n l f)(e):amG p i l f e:=by
 induction e using Ex.ind with
 |h e ih=>
  intro on first st t hp ht
  obtain⟨he,hc,hf,_⟩:=hp;obtain⟨q1,q2,q3⟩:=he.self;rw[qW];by_cases hk:1<=e.kind/\e.kind<=4
  ·rw[if_pos hk];exact⟨[],[],.refl _ _ _,λ_=>⟨aax C he hk hf ht,λq hq=>by simp at hq⟩⟩
  rw[if_neg hk];unfold eX;obtain⟨vs,qs,ats,fr,h1,h2,h3,h4⟩:=Q5 C ih he hc hf (.inl ⟨t,ht⟩) first st
  have hr:=aaj C.node C.all C.enL C.enC e he t ht;have hto:(oV p i e).getD ⟨0,0,0⟩=t:=by rw[ht];rfl
  rw[hto];obtain⟨e1,e2⟩:=aft (en:=l.enums) (first:=first) (q:=(lT p i first e on st).1) (t:=t) (on:=on) (s:=(lT p i first e on st).2) (by rw[C.en];exact hr);generalize hu:(lT p i first e on st).2=u at*;refine⟨_,_,h1.trans e2,λhv=> ?_⟩;have hv0:=hv (vaF first (u.fr+1) t on) (by simp);obtain⟨k1,k2,k3⟩:=h4 λv zb=>hv v (List.mem_append.2 (.inl zb));refine⟨?_,λq hq=> ?_⟩
  ·rw[e1];exact .inr ⟨Q2 _ _,_,hv0,rfl,rfl⟩
  ·rcases List.mem_append.1 hq with hq|hq
   ·exact k3 q hq
   ·simp at hq;subst hq;rw[h2];have htn:uQ f (cj first (u.fr+1))=t:=by unfold uQ;rw[show fp f (cj first (u.fr+1))=some (vaF first (u.fr+1) t on) from hv0];rfl
    refine⟨by simp,λs hs=> ?_,λc jg=>⟨(hc.1 c jg).1,Wz C (hc.1 c jg).2⟩,⟨by have:=hc.2;have:=Pm e;simp only;omega,aaA q1 h3,by simp⟩,T9,?_⟩
    ·simp at hs;subst hs;exact⟨_,hv0,rfl⟩
    ·by_cases Cy:e.kind=13
     ·refine .inr ?_;have B5:=ht;rw[yG,if_neg (by omega),if_neg (by omega),if_neg (by omega),if_neg (by omega)]at B5;split at B5
      ·cases B5
      rename_i ts uS;rw[if_pos (by omega)]at B5;unfold AW at B5;rw[if_neg (by omega),if_neg (by omega),if_neg (by omega),if_neg (by omega)]at B5;split at B5
      ·rename_i k wS;split at B5
       ·rename_i h1';injection B5 with B5;refine T8 C he Cy uS wS k1 (nm:=[cj first (u.fr+1)]) (by simp[h1']) λj s d hs hd=> ?_;have hj:j=0:=by
         rcases j with _|j
         ·rfl
         ·simp at hs
        subst hj;simp at hs;subst hs;rw[htn,<-B5,IM hd]
       ·cases B5
      ·cases B5
     ·refine .inl ⟨rfl,?_⟩;have zK:aD {xy p i first e ats fr with names:=[cj first (u.fr+1)],on:=on}=cj first (u.fr+1):=rfl
      rw[zK,htn];exact afu C he hc hf ht Cy k1 k2 [cj first (u.fr+1)]
end
def ah2(l:List UInt8):Nat:=l.foldl (λa d=>a*10+(d.toNat-48)) 0
theorem Ch{d}(h:d<10):(UInt8.ofNat (48+d)).toNat=48+d:=by rw[UInt8.toNat_ofNat'];omega
theorem ah3(l)(d:UInt8):ah2 (l++[d])=ah2 l*10+(d.toNat-48):=by simp[ah2]
theorem IP:∀u:Nat,ah2 (Lib.decDigits u)=u:=by
 intro u;induction u using Nat.strongRecOn with
 |_ u ih=>
  rw[Lib.decDigits];split
  ·rename_i h;have:=Ch h;show 0*10+((UInt8.ofNat (48+u)).toNat-48)=u;rw[this];omega
  ·rw[ah3,ih (u/10) (by omega),Ch (by omega)];omega
def afv(c:UInt8):Bool:=decide (48<=c.toNat)&&decide (c.toNat<=57)
theorem afw:∀u:Nat,∀c∈Lib.decDigits u,afv c=true:=by
 intro u;induction u using Nat.strongRecOn with
 |_ u ih=>
  rw[Lib.decDigits];split
  ·rename_i h;intro c hc;simp only[List.mem_singleton]at hc;subst hc;have:=Ch h;simp[afv];omega
  ·intro c hc;rcases List.mem_append.1 hc with hc|hc
   ·exact ih (u/10) (by omega) c hc
   ·simp only[List.mem_singleton]at hc;subst hc;have:=Ch (d:=u%10) (by omega);simp[afv];omega
theorem amJ{n m}(h:Lib.itoa n=Lib.itoa m):n=m:=by
 have key:∀u v:Nat,(45:UInt8)::Lib.decDigits u≠Lib.decDigits v:=λu v e=>by have:=afw v 45 (by rw[<-e];exact List.mem_cons_self);exact absurd this (by decide)
 unfold Lib.itoa at h;by_cases h1:n<0<;>by_cases h2:m<0
 ·rw[if_pos h1,if_pos h2]at h;injection h with _ h;have:=congrArg ah2 h;rw[IP,IP]at this;omega
 ·rw[if_pos h1,if_neg h2]at h;exact absurd h (key _ _)
 ·rw[if_neg h1,if_pos h2]at h;exact absurd h.symm (key _ _)
 ·rw[if_neg h1,if_neg h2]at h;have:=congrArg ah2 h;rw[IP,IP]at this;omega
theorem apB(c)(hc:afv c=false)(h45:c≠45)(n):∀x∈Lib.itoa n,(x !=c)=true:=by
 have key:∀u:Nat,∀x∈Lib.decDigits u,(x !=c)=true:=λu x hx=>by
  have:=afw u x hx;simp only[bne_iff_ne,ne_eq]
  rintro rfl
  rw[this]at hc;cases hc
 unfold Lib.itoa;split
 ·intro x hx;rcases List.mem_cons.1 hx with rfl|hx
  ·simpa[bne_iff_ne]usingλe=>h45 e.symm
  ·exact key _ x hx
 ·exact key _
theorem K9{s:List UInt8}(h:pz s=true):(∀c∈s,Qt c=true)/\s.length<=12:=by simp only[pz,DM,Bool.and_eq_true,List.all_eq_true,decide_eq_true_eq]at h;exact⟨h.1.2,h.1.1.1.2⟩
theorem IQ{s}(h:pz s=true):tw s/\(46:UInt8)∉s:=by
 obtain⟨h1,_⟩:=K9 h;constructor
 ·intro hm;have:=h1 _ hm;revert this;decide
 ·intro hm;have:=h1 _ hm;revert this;decide
theorem ah4{a b r s}(ha:(46:UInt8)∉a)(hb:(46:UInt8)∉b)(h:a++[46]++r=b++[46]++s):a=b/\r=s:=by
 induction a generalizing b with
 |nil=>
  cases b with
  |nil=>simpa using h
  |cons x b=>simp at h;exact absurd (by simp[<-h.1]) hb
 |cons x a ih=>
  cases b with
  |nil=>simp at h;exact absurd (by simp[h.1]) ha
  |cons y b=>
   simp only[List.cons_append,List.cons.injEq]at h;obtain⟨h1,h2⟩:=ih (λhm=>ha (List.mem_cons_of_mem _ hm)) (λhm=>hb (List.mem_cons_of_mem _ hm)) (by simpa using h.2);exact⟨by rw[h.1,h1],h2⟩
theorem Ua{a b}{k m}(ha:pz a=true)(hb:pz b=true)(h:cj a k=cj b m):a=b/\k=m:=by obtain⟨h1,h2⟩:=ah4 (IQ ha).2 (IQ hb).2 h;exact⟨h1,amJ h2⟩
theorem yh{a b}{k}(hb:pz b=true):cj a k≠b:=by intro e;exact(IQ hb).2 (by rw[<-e];simp[cj])
theorem ah5{a}(ha:pz a=true)(k):tw (cj a k):=by
 intro hm;simp only[cj,List.mem_append,List.mem_singleton]at hm;rcases hm with(hm|hm)|hm
 ·exact(IQ ha).1 hm
 ·revert hm;decide
 ·have:=apB 47 (by decide) (by decide) k 47 hm;revert this;decide
theorem ah6{a}(ha:pz a=true){k}(h0:0<=k)(h1:k<=1000000):(cj a k).length<=1000:=by have h2:=(K9 ha).2;have h3:=OH (n:=k) (by unfold OG;omega);simp only[cj,List.length_append,List.length_cons,List.length_nil];omega
theorem aaB(first)(q)(nm)(t)(on)(s:Em):(kC first q nm t on s).2.qs.length=s.qs.length+1:=by unfold kC;split<;>simp
theorem amK(first)(e)(on)(st:Em):(jA first e on st).qs.length<=st.qs.length+1:=by
 unfold jA;split
 ·rw[aaB];exact Nat.le_refl _
 ·omega
theorem La(p)(i)(first):∀(xs:List Ex) (w6:List (Option (List dY))) (st:Em),(∀x∈xs,∀on st,((gU p i first x on st).2.qs.length:Int)<=st.qs.length+2*dT x)->
 ((bM p i first xs w6 st).2.qs.length:Int)<=st.qs.length+2*fB xs
 |[],_,st,_=>by rw[bM,fB];simp
 |x::xs,[],st,_=>by have h1:=gH x;have h2:=iB xs;rw[bM,fB];simp only;omega
 |x::xs,none::w6,st,h=>by
  have h1:=gH x;have:=La p i first xs w6 st λy hy=>h y (by simp[hy])
  rw[bM,fB];simp only;omega
 |x::xs,some on::w6,st,h=>by
  have h1:=h x (by simp) on st;have:=La p i first xs w6 (gU p i first x on st).2 λy hy=>h y (by simp[hy])
  rw[bM,fB];simp only;omega
theorem Ub{p}{i}{first}{e:Ex}(h:∀x∈e.ar,∀on st,((gU p i first x on st).2.qs.length:Int)<=st.qs.length+2*dT x)(nm)(on)(st:Em):
 ((eX p i first e nm on st).2.qs.length:Int)<=st.qs.length+2*dT e:=by
 unfold eX;rw[aaB];unfold lT;have h1:=La p i first e.ar (mO p e on) (jA first e on st) h
 have h2:=amK first e on st
 rw[jb];simp only;omega
theorem amL(p)(i)(first)(e):∀on st,((gU p i first e on st).2.qs.length:Int)<=st.qs.length+2*dT e:=by
 induction e using Ex.ind with
 |h e ih=>
  intro on st;rw[qW];have h1:=gH e;split
  ·simp only;omega
  ·exact Ub ih [] on st
section
variable {p:cY} {i:Nat} {n:kZ} {l:jw} {f:Fl}
structure Pce(p:cY)(i:Nat)(l:jw)(f:Fl)(x:wq)(vs:List Va)(qs:List Pl):Prop where
 ix:vs.map (·.name)=(List.range vs.length).map λk:Nat=>cj (x.names.getD 0 []) (1+k)
 nm:dN qs=vs.map (·.name)++x.names
 ty:∀v∈vs,bq l.enums (z3 v)=true
 len:vs.length<=1000/\qs.length<=1000
 ok:(∀v∈vs,fp f v.name=some v)->∀q∈qs,IC l i f q
theorem awJ(C:Ctx p i n l f){x:wq}(hx:x∈n.eqs)(w5:w8 x.e):K1 p i x.e:=λy hy=>by have h1:=C.nod.eqs x hx;simp only[Et,Bool.and_eq_true]at h1;have h2:=h1.1.2;simp only[mV,Bool.and_eq_true,List.all_eq_true]at h2;exact⟨h2.2 y hy,C.nod.part x hx y hy,w5 y hy⟩
theorem amM(C:Ctx p i n l f){k:Nat}{x:wq}(RG:n.eqs[k]? =some x)(w5:w8 x.e)(st:Em):∃vs qs,(uP p i st x).vs=st.vs++vs/\(uP p i st x).qs=st.qs++qs/\Pce p i l f x vs qs:=by
 have hx:=List.mem_of_getElem? RG;have he:=awJ C hx w5;have hna:=fa C.node;obtain⟨q1,q2,q3⟩:=he.self;have h1:=C.nod.eqs x hx;simp only[Et,Bool.and_eq_true,decide_eq_true_eq,List.all_eq_true,Bool.or_eq_true,beq_iff_eq]at h1;obtain⟨⟨⟨g1,g2⟩,g3⟩,g4⟩:=h1;simp only[mV,Bool.and_eq_true,decide_eq_true_eq]at g3;obtain⟨nv,np,_⟩:=Cf (C.nod.nms k x RG);have bw:x.names≠[]:=λe=>by rw[e]at g2;simp at g2
 have hcl:=C.nod.cl x hx;have fj:=C.nod.ty x hx;have adP:∀s∈x.names,∃d∈dA n,d.name=s:=λs hs=>by
  have:=(nv s hs).1;unfold Vo at this;cases q:eT n s with
  |none=>rw[q]at this;simp at this
  |some d=>exact⟨d,(oD q).1,(oD q).2⟩
 have h0:x.names.getD 0 []∈x.names:=uM g2;obtain⟨d0,hd0,aAi⟩:=adP _ h0;have amN:=C.nod.row d0 hd0;rw[aAi]at amN;cases pJ:da p i (x.names.getD 0 [])with
 |none=>rw[pJ]at amN;simp at amN
 |some on=>
 simp only[GW,pJ,Option.getD_some,Bool.and_eq_true,List.all_eq_true,beq_iff_eq]at hcl;obtain⟨cl1,cl2⟩:=hcl;obtain⟨on1,on2⟩:=JO pJ;have on3:=apn C.node C.nod pJ;have hc:BJ p i on x.e:=⟨on3,by omega⟩;have adO:∀s∈x.names,∃v,fp f s=some v/\v.on=on/\∃d,eT n s=some d/\z3 v=d.ty:=λs hs=>by obtain⟨d,hd,rfl⟩:=adP s hs;refine⟨varOf p i d,C.dec d hd,?_,d,Qx C.nod.once hd,rfl⟩;exact cl1 _ hs
 have hT:(∃t,oV p i x.e=some t)\/(x.e.kind=13/\∃ts,iu p i x.e=some ts):=by
  unfold AR Hb at fj;by_cases Cy:x.e.kind=13
  ·rw[if_pos Cy]at fj;cases q:iu p i x.e with
   |none=>rw[q]at fj;simp at fj
   |some ts=>exact .inr ⟨Cy,ts,rfl⟩
  ·rw[if_neg Cy]at fj;cases q:oV p i x.e with
   |none=>rw[q]at fj;simp at fj
   |some t=>exact .inl ⟨t,rfl⟩
 obtain⟨vs,qs,ats,fr,a1,a2,a3,a4⟩:=Q5 C (λy _=>ah1 C y) he hc cl2 hT (x.names.getD 0 []) ⟨0,st.vs,st.qs⟩;have hem:(uP p i st x)=⟨(lT p i (x.names.getD 0 []) x.e on ⟨0,st.vs,st.qs⟩).2.fr,(lT p i (x.names.getD 0 []) x.e on ⟨0,st.vs,st.qs⟩).2.vs,
  (lT p i (x.names.getD 0 []) x.e on ⟨0,st.vs,st.qs⟩).2.qs++[qOf (lT p i (x.names.getD 0 []) x.e on ⟨0,st.vs,st.qs⟩).1 x.names on]⟩:=by
  unfold uP eX kC;rw[pJ,if_neg bw];rfl
 have hlen:=Ub (p:=p) (i:=i) (first:=x.names.getD 0 []) (e:=x.e) (λy _=>amL p i _ y) x.names on ⟨0,st.vs,st.qs⟩;have aBV:((uP p i st x).qs.length:Int)<=st.qs.length+2*dT x.e:=by
  have e:uP p i st x=(eX p i (x.names.getD 0 []) x.e x.names on ⟨0,st.vs,st.qs⟩).2:=by unfold uP;rw[pJ];rfl
  rw[e];exact hlen
 refine⟨vs,qs++[qOf (lT p i (x.names.getD 0 []) x.e on ⟨0,st.vs,st.qs⟩).1 x.names on],by rw[hem];exact a1.ev,by rw[hem];simp only;rw[a1.eq,List.append_assoc],?_⟩;have Ev:(qs.length:Int)+1<=120:=by
  have:(uP p i st x).qs.length=st.qs.length+(qs.length+1):=by rw[hem];simp only;rw[a1.eq];simp[]
  omega
 refine⟨?_,?_,a1.ty,⟨by rw[<-a1.ln];omega,by simp;omega⟩,λhv q hq=> ?_⟩
 ·rw[a1.ix];refine List.map_congr_left λk _=> ?_;simp only[Int.zero_add]
 ·rw[qA,a1.nm];simp[dN,qOf]
 obtain⟨k1,k2,k3⟩:=a4 hv;rcases List.mem_append.1 hq with hq|hq
 ·exact k3 q hq
 rw[List.mem_singleton]at hq;subst hq;rw[a2];have hw:∃w,Hb p i x=some w/\w.length=x.names.length/\∀(j:Nat) (t:Ty) (s:List UInt8),w[j]? =some t->x.names[j]? =some s->uQ f s=t:=by
  unfold AR at fj;cases hw:Hb p i x with
  |none=>rw[hw]at fj;cases fj
  |some w=>
   rw[hw]at fj;simp only[Bool.and_eq_true,beq_iff_eq,List.all_eq_true,decide_eq_true_eq]at fj;refine⟨w,rfl,fj.1,λj t s ht hs=> ?_⟩;have hz:(t,s)∈w.zip x.names:=by refine List.mem_of_getElem? (i:=j) ?_;rw[List.getElem?_zip_eq_some];exact⟨ht,hs⟩
   have:=fj.2 _ hz;rw[hna]at this;obtain⟨v,zb,_,d,hd,htv⟩:=adO s (List.mem_of_getElem? hs);simp only at this;rw[hd]at this;unfold uQ;rw[zb];exact htv.trans this
 obtain⟨w,U5,hw2,hw3⟩:=hw;have Ut:x.names.length<=6/\(x.e.kind≠13->x.names.length=1):=by
  refine⟨?_,λh=>g4.resolve_right h⟩;rcases g4 with g4|g4
  ·omega
  ·unfold Hb at U5;rw[if_pos g4]at U5;split at U5
   ·cases U5
   ·rename_i ts uS;rw[Option.map_eq_some_iff]at U5;obtain⟨k',wS,rfl⟩:=U5;obtain⟨g,hg⟩:=xD (AU wS).1;rw[fa hg,List.length_map]at hw2;have:=(C.all k' g hg).few;omega
 refine⟨bw,λs hs=> ?_,λc jg=>⟨on1 c jg,Wz C (on3 c jg).2⟩,⟨by show on.length<=1000;omega,aaA q1 a3,by show x.names.length<=1000;omega⟩,T9,?_⟩
 ·obtain⟨v,hv1,hv2,_⟩:=adO s hs;exact⟨v,hv1,hv2⟩
 ·have zK:aD (qOf (xy p i (x.names.getD 0 []) x.e ats fr) x.names on)=x.names.getD 0 []:=rfl;by_cases Cy:x.e.kind=13
  ·refine .inr ?_;unfold Hb at U5;rw[if_pos Cy]at U5;split at U5
   ·cases U5
   ·rename_i ts uS;rw[Option.map_eq_some_iff]at U5;obtain⟨k',wS,rfl⟩:=U5;refine T8 C he Cy uS wS k1 (by rw[<-hw2,List.length_map]) λj s d hs hd=> ?_;exact hw3 j d.ty s (by rw[List.getElem?_map,hd];rfl) hs
  ·refine .inl ⟨Ut.2 Cy,?_⟩;rw[zK];unfold Hb at U5;rw[if_neg Cy,Option.map_eq_some_iff]at U5;obtain⟨t,ht,rfl⟩:=U5;have h0s:x.names[0]? =some (x.names.getD 0 []):=by rw[List.getD_eq_getElem?_getD,List.getElem?_eq_getElem g2];rfl
   rw[hw3 0 t _ rfl h0s];exact afu C he hc cl2 ht Cy k1 k2 x.names
def Pcs(p:cY)(i:Nat)(l:jw)(f:Fl):List wq->List (List Va×List Pl)->Prop
 |[],[]=>True
 |x::r,y::s=>Pce p i l f x y.1 y.2/\Pcs p i l f r s
 |_,_=>False
theorem Lb(C:Ctx p i n l f):∀(r pre:List wq) (st:Em),n.eqs=pre++r->(∀x∈r,w8 x.e)->∃ps,Pcs p i l f r ps/\(r.foldl (uP p i) st).vs=st.vs++ps.flatMap (·.1)/\(r.foldl (uP p i) st).qs=st.qs++ps.flatMap (·.2)
 |[],_,st,_,_=>⟨[],trivial,by simp,by simp⟩
 |x::r,pre,st,he,h=>by
  obtain⟨vs,qs,h1,h2,h3⟩:=amM C (k:=pre.length) (x:=x) (by rw[he];simp) (h x (by simp)) st;obtain⟨ps,g1,g2,g3⟩:=Lb C r (pre++[x]) (uP p i st x) (by rw[he];simp) λy hy=>h y (by simp[hy]);refine⟨(vs,qs)::ps,⟨h3,g1⟩,?_,?_⟩
  ·rw[List.foldl_cons,g2,h1,List.flatMap_cons,List.append_assoc]
  ·rw[List.foldl_cons,g3,h2,List.flatMap_cons,List.append_assoc]
end
def MY(pl:List (List (List UInt8)×Bool))(i:Nat):Bool:= !(pl.getD i ([],true)).2
theorem Lc(pl:List (List (List UInt8)×Bool))(i):(place pl i).length=pl.length:=by simp[place]
theorem Q6{pl:List (List (List UInt8)×Bool)}{i}(j):(place pl i).getD j ([],true)=if i=j/\j<pl.length then((pl.getD i ([],true)).1,true)else pl.getD j ([],true):=by
 unfold place;rw[List.getD_eq_getElem?_getD,List.getElem?_set];by_cases e:i=j
 ·subst e;by_cases h:i<pl.length
  ·simp[h]
  ·simp[h,List.getD_eq_getElem?_getD]
 ·rw[if_neg e,if_neg (λh=>e h.1),List.getD_eq_getElem?_getD]
theorem WB{α} [DecidableEq α]{l:List α}(h:l.Nodup){g g':α->Bool}{a:α}(ha:g a=true)(hg:∀b,g' b=(g b&&b !=a)):l.filter g'=(l.filter g).erase a:=by rw[List.Nodup.erase_eq_filter (show(l.filter g).Nodup from List.Pairwise.filter g h) a,List.filter_filter];refine List.filter_congr λb _=> ?_;rw[hg,Bool.and_comm]
theorem apC{hs:List (List (List UInt8))}{pl}{i}(h:On hs pl=some i):i<hs.length/\(∀s∈hs.getD i [],gK pl s=false)/\MY pl i=true:=by unfold On at h;have h1:=List.find?_some h;have h2:=List.mem_of_find?_eq_some h;simp only[rS,Bool.and_eq_true,List.all_eq_true,Bool.not_eq_true']at h1;exact⟨List.mem_range.1 h2,h1.1,by unfold MY;rw[h1.2];rfl⟩
theorem Q7{hs:List (List (List UInt8))}:∀(k:Nat) (pl:List (List (List UInt8)×Bool)) (l:List Nat),pl.length=hs.length->((List.range hs.length).filter (MY pl)).length=k->fH hs k pl=(l,true)->
 l.Perm ((List.range hs.length).filter (MY pl))/\∀(j:Nat) (i:Nat),l[j]? =some i->∀s∈hs.getD i [],gK ((l.take j).foldl place pl) s=false
 |0,pl,l,hl,hk,h=>by simp only[fH,Prod.mk.injEq]at h;obtain⟨rfl,_⟩:=h;rw[List.eq_nil_of_length_eq_zero hk];exact⟨.nil,λj i h=>by simp at h⟩
 |k+1,pl,l,hl,hk,h=>by
  rw[fH]at h;split at h
  ·simp at h
  rename_i i hi;obtain⟨n1,n2,n3⟩:=apC hi;simp only[Prod.mk.injEq]at h;obtain⟨h1,h2⟩:=h;have hg:∀b,MY (place pl i) b=(MY pl b&&b !=i):=λb=>by
   unfold MY;rw[Q6];by_cases e:i=b
   ·subst e;rw[if_pos ⟨rfl,by omega⟩];simp
   ·rw[if_neg (λh=>e h.1)];have:(b !=i)=true:=by simpa usingλh:b=i=>e h.symm
    rw[this,Bool.and_true]
  have hf:=WB (l:=List.range hs.length) List.nodup_range (g:=MY pl) (g':=MY (place pl i)) (a:=i) n3 hg;have hm:=List.mem_filter.2 ⟨List.mem_range.2 n1,n3⟩;have hlen:((List.range hs.length).filter (MY (place pl i))).length=k:=by rw[hf,List.length_erase_of_mem hm,hk];rfl
  obtain⟨g1,g2⟩:=Q7 k (place pl i) (fH hs k (place pl i)).1 (by rw[Lc];exact hl) hlen (by rw[<-h2]);refine⟨?_,λj m hj s um=> ?_⟩
  ·rw[<-h1];rw[hf]at g1;exact(List.Perm.cons i g1).trans (List.perm_cons_erase hm).symm
  ·rw[<-h1]at hj|-;cases j with
   |zero=>
    simp at hj;subst hj;exact n2 s um
   |succ j=>
    simp only[List.getElem?_cons_succ]at hj;simp only[List.take_succ_cons,List.foldl_cons];exact g2 j m hj s um
theorem Ml(pl:List (List (List UInt8)×Bool)):∀(l:List Nat) (m:Nat),m<pl.length->((l.foldl place pl).getD m ([],true)).1=(pl.getD m ([],true)).1/\(m∉l->((l.foldl place pl).getD m ([],true)).2=(pl.getD m ([],true)).2)
 |[],m,_=>⟨rfl,λ_=>rfl⟩
 |i::l,m,hm=>by
  obtain⟨h1,h2⟩:=Ml (place pl i) l m (by rw[Lc];exact hm);rw[List.foldl_cons,h1];refine⟨?_,λhn=> ?_⟩
  ·rw[Q6];split
   ·rename_i c;rw[c.1]
   ·rfl
  ·rw[h2 (λh=>hn (by simp[h])),Q6,if_neg (λc=>hn (by simp[c.1]))]
theorem Uc(pl:List (List (List UInt8)×Bool)):∀l:List Nat,(l.foldl place pl).length=pl.length
 |[]=>rfl
 |i::l=>by rw[List.foldl_cons,Uc,Lc]
theorem Q8{α}(g:α->List (List UInt8))(l:List α):(List.range l.length).filter (MY (l.map λx=>(g x,false)))=List.range l.length:=by refine List.filter_eq_self.2 λi hi=> ?_;have:=List.mem_range.1 hi;unfold MY;rw[List.getD_eq_getElem?_getD,List.getElem?_map,List.getElem?_eq_getElem this];rfl
theorem adQ{α} [Inhabited α](l:List α):(List.range l.length).map (λi=>l.getD i default)=l:=by
 refine List.ext_getElem? λi=> ?_;rw[List.getElem?_map];by_cases h:i<l.length
 ·rw[List.getElem?_range h,List.getElem?_eq_getElem h];simp[List.getD_eq_getElem?_getD,List.getElem?_eq_getElem h]
 ·rw[List.getElem?_eq_none (by simp;omega),List.getElem?_eq_none (by omega)];rfl
theorem adR{f:Fl}(h:(eH f).2=true):(kf f).eqs.Perm f.eqs:=by have:=Q7 (hs:=f.eqs.map fF) f.eqs.length (f.eqs.map λq=>(q.names,false)) (eH f).1 (by simp) (by rw[List.length_map,Q8];simp) (by unfold eH at h|-;rw[<-h]);have h1:=this.1;rw[List.length_map,Q8]at h1;have h2:=h1.map λi=>f.eqs.getD i default;rw[adQ]at h2;exact h2
theorem ah7{f:Fl}(h:(eH f).2=true)(k:Nat)(q:Pl)(hq:(kf f).eqs[k]? =some q)(s:List UInt8)(hs:s∈fF q)(hd:s∈dN f.eqs):s∈dN ((kf f).eqs.take k):=by
 have:=Q7 (hs:=f.eqs.map fF) f.eqs.length (f.eqs.map λq=>(q.names,false)) (eH f).1 (by simp) (by rw[List.length_map,Q8];simp) (by unfold eH at h|-;rw[<-h]);obtain⟨h1,h2⟩:=this;have Zi:=hq;simp only[kf,List.getElem?_map]at Zi;cases hi:(eH f).1[k]? with
 |none=>rw[hi]at Zi;simp at Zi
 |some i=>
  rw[hi]at Zi;simp at Zi;have hil:i<f.eqs.length:=by have:=h1.mem_iff.1 (List.mem_of_getElem? hi);have:=(List.mem_filter.1 this).1;simpa using List.mem_range.1 this
  have e1:f.eqs[i]? =some q:=by rw[List.getElem?_eq_getElem hil,<-Zi,List.getElem?_eq_getElem hil];rfl
  have e2:(f.eqs.map fF).getD i []=fF q:=by rw[List.getD_eq_getElem?_getD,List.getElem?_map,e1];rfl
  have h3:=h2 k i hi s (by rw[e2];exact hs);obtain⟨r,hr,hsr⟩:=List.mem_flatMap.1 hd;obtain⟨m,hm⟩:=List.getElem?_of_mem hr;have hml:m<f.eqs.length:=(List.getElem?_eq_some_iff.1 hm).1;obtain⟨p1,p2⟩:=Ml (f.eqs.map λq=>(q.names,false)) ((eH f).1.take k) m (by simpa using hml);have e3:(f.eqs.map λq:Pl=>(q.names,false)).getD m ([],true)=(r.names,false):=by rw[List.getD_eq_getElem?_getD,List.getElem?_map,hm];rfl
  rw[e3]at p1 p2;have Lg:m∈(eH f).1.take k:=by
   refine Classical.byContradiction λhn=> ?_;have p3:=p2 hn;have fM:m<(((eH f).1.take k).foldl place (f.eqs.map λq=>(q.names,false))).length:=by rw[Uc];simpa using hml
   have hx:((((eH f).1.take k).foldl place (f.eqs.map λq=>(q.names,false))).getD m ([],true))∈(((eH f).1.take k).foldl place (f.eqs.map λq=>(q.names,false))):=uM fM;have:gK (((eH f).1.take k).foldl place (f.eqs.map λq=>(q.names,false))) s=true:=by unfold gK;refine List.any_eq_true.2 ⟨_,hx,?_⟩;rw[p3,p1];simp only[Bool.not_false,Bool.true_and];exact List.any_eq_true.2 ⟨s,hsr,by simp⟩
   rw[this]at h3;cases h3
  have:r∈(kf f).eqs.take k:=by simp only[kf,<-List.map_take];refine List.mem_map.2 ⟨m,Lg,?_⟩;rw[List.getD_eq_getElem?_getD,hm];rfl
  exact zf this hsr
section
variable {p:cY} {i:Nat} {n:kZ} {l:jw} {f:Fl}
theorem aaC(N:MW p i n):∀(r pre:List wq),n.eqs=pre++r->(r.flatMap (·.names)).Pairwise (·≠·)/\∀s∈r.flatMap (·.names),s∉pre.flatMap (·.names)
 |[],_,_=>⟨.nil,λs hs=>by simp at hs⟩
 |x::r,pre,he=>by
  obtain⟨h1,h2⟩:=aaC N r (pre++[x]) (by rw[he];simp);obtain⟨g1,g2,_⟩:=Cf (N.nms pre.length x (by rw[he];simp));have hx:∀s∈x.names,s∉pre.flatMap (·.names):=λs hs hm=>by
   have:=(g1 s hs).2.2;unfold fC at this;rw[show n.eqs.take pre.length=pre by rw[he];simp]at this;have zX:s∈(pre.flatMap (·.names)).filter (·==s):=List.mem_filter.2 ⟨hm,by simp⟩;have:((pre.flatMap (·.names)).filter (·==s)).length≠0:=λe=>by rw[List.eq_nil_of_length_eq_zero e]at zX;simp at zX
   omega
  rw[List.flatMap_cons];refine⟨List.pairwise_append.2 ⟨g2,h1,λa ha b hb e=> ?_⟩,λs hs hm=> ?_⟩
  ·subst e;exact h2 a hb (by rw[List.flatMap_append];exact List.mem_append.2 (.inr (by simpa using ha)))
  ·rcases List.mem_append.1 hs with hs|hs
   ·exact hx s hs hm
   ·exact h2 s hs (by rw[List.flatMap_append];exact List.mem_append.2 (.inl hm))
theorem Gf(N:MW p i n){x:wq}(hx:x∈n.eqs):(∀s∈x.names,pz s=true)/\0<x.names.length:=by have:=N.eqs x hx;simp only[Et,Bool.and_eq_true,decide_eq_true_eq,List.all_eq_true]at this;exact⟨this.1.1.1,this.1.1.2⟩
theorem Ci:∀{r:List wq} {ps:List (List Va×List Pl)},Pcs p i l f r ps->
 (∀s∈ps.flatMap (λy=>y.1.map (·.name)),∃x∈r,∃k:Nat,k<1000/\s=cj (x.names.getD 0 []) (1+k))/\
 (∀s∈ps.flatMap (λy=>dN y.2),s∈ps.flatMap (λy=>y.1.map (·.name))\/∃x∈r,s∈x.names)/\
 (∀s∈ps.flatMap (λy=>y.1.map (·.name)),s∈ps.flatMap (λy=>dN y.2))/\∀x∈r,∀s∈x.names,s∈ps.flatMap (λy=>dN y.2)
 |[],[],_=>⟨λs hs=>by simp at hs,λs hs=>by simp at hs,λs hs=>by simp at hs,λx hx=>by simp at hx⟩
 |x::r,y::ps,h=>by
  obtain⟨h1,h2⟩:=h;obtain⟨g1,g2,g3,g4⟩:=Ci h2;simp only[List.flatMap_cons];refine⟨λs hs=> ?_,λs hs=> ?_,λs hs=> ?_,λz hz s hs=> ?_⟩
  ·rcases List.mem_append.1 hs with hs|hs
   ·rw[h1.ix]at hs;obtain⟨k,hk,rfl⟩:=List.mem_map.1 hs;exact⟨x,by simp,k,by have:=List.mem_range.1 hk;have:=h1.len.1;omega,rfl⟩
   ·obtain⟨z,hz,k,hk,e⟩:=g1 s hs;exact⟨z,by simp[hz],k,hk,e⟩
  ·rcases List.mem_append.1 hs with hs|hs
   ·rw[h1.nm]at hs;rcases List.mem_append.1 hs with hs|hs
    ·exact .inl (List.mem_append.2 (.inl hs))
    ·exact .inr ⟨x,by simp,hs⟩
   ·rcases g2 s hs with hs|⟨z,hz,hs⟩
    ·exact .inl (List.mem_append.2 (.inr hs))
    ·exact .inr ⟨z,by simp[hz],hs⟩
  ·rcases List.mem_append.1 hs with hs|hs
   ·exact List.mem_append.2 (.inl (by rw[h1.nm];exact List.mem_append.2 (.inl hs)))
   ·exact List.mem_append.2 (.inr (g3 s hs))
  ·rcases List.mem_cons.1 hz with e|hz
   ·subst e;exact List.mem_append.2 (.inl (by rw[h1.nm];exact List.mem_append.2 (.inr hs)))
   ·exact List.mem_append.2 (.inr (g4 z hz s hs))
 |[],_::_,h=>h.elim
 |_::_,[],h=>h.elim
theorem Q9(N:MW p i n):∀{r pre:List wq} {ps:List (List Va×List Pl)},n.eqs=pre++r->Pcs p i l f r ps->(ps.flatMap (λy=>dN y.2)).Pairwise (·≠·)/\(ps.flatMap (λy=>y.1.map (·.name))).Pairwise (·≠·)
 |[],_,[],_,_=>⟨.nil,.nil⟩
 |x::r,pre,y::ps,he,h=>by
  obtain⟨h1,h2⟩:=h;have WM:n.eqs=(pre++[x])++r:=by rw[he];simp
  obtain⟨g1,g2⟩:=Q9 N WM h2;obtain⟨k1,k2,k3,k4⟩:=Ci h2;have hx:x∈n.eqs:=by rw[he];simp
  have hr:∀z∈r,z∈n.eqs:=λz hz=>by rw[he];simp[hz]
  obtain⟨lx,nx⟩:=Gf N hx;have h0:x.names.getD 0 []∈x.names:=uM nx;obtain⟨o1,_⟩:=aaC N (x::r) pre he;rw[List.flatMap_cons]at o1;obtain⟨o2,o3,o4⟩:=List.pairwise_append.1 o1;have far:∀z∈r,x.names.getD 0 []≠z.names.getD 0 []:=λz hz e=>
   o4 _ h0 _ (List.mem_flatMap.2 ⟨z,hz,uM (Gf N (hr z hz)).2⟩) e
  have own:(y.1.map (·.name)).Pairwise (·≠·):=by rw[h1.ix,List.pairwise_map];refine List.Pairwise.imp ?_ List.pairwise_lt_range;intro a b hab e;have:=(Ua (lx _ h0) (lx _ h0) e).2;omega
  have fl:∀(a:List UInt8),a∈y.1.map (·.name)->∃k:Nat,a=cj (x.names.getD 0 []) (1+k):=λa ha=>by rw[h1.ix]at ha;obtain⟨k,_,rfl⟩:=List.mem_map.1 ha;exact⟨k,rfl⟩
  have aqK:∀a∈y.1.map (·.name),∀b∈ps.flatMap (λy=>y.1.map (·.name)),a≠b:=λa ha b hb e=>by obtain⟨k,rfl⟩:=fl a ha;obtain⟨z,hz,m,_,e2⟩:=k1 b hb;exact far z hz (Ua (lx _ h0) ((Gf N (hr z hz)).1 _ (uM (Gf N (hr z hz)).2)) (e.trans e2)).1
  simp only[List.flatMap_cons];refine⟨List.pairwise_append.2 ⟨?_,g1,λa ha b hb e=> ?_⟩,List.pairwise_append.2 ⟨own,g2,aqK⟩⟩
  ·rw[h1.nm];refine List.pairwise_append.2 ⟨own,o2,λa ha b hb e=> ?_⟩;obtain⟨k,rfl⟩:=fl a ha;exact yh (lx b hb) e
  ·rw[h1.nm]at ha;rcases List.mem_append.1 ha with ha|ha<;>rcases k2 b hb with hb|⟨z,hz,hb⟩
   ·exact aqK a ha b hb e
   ·obtain⟨k,rfl⟩:=fl a ha;exact yh ((Gf N (hr z hz)).1 b hb) e
   ·obtain⟨z,hz,m,_,e2⟩:=k1 b hb;exact yh (lx a ha) (e2.symm.trans e.symm)
   ·exact o4 a ha b (List.mem_flatMap.2 ⟨z,hz,hb⟩) e
 |[],_,_::_,_,h=>h.elim
 |_::_,_,[],_,h=>h.elim
end
theorem DP(ps:List (List Va×List Pl)):dN (ps.flatMap (·.2))=ps.flatMap λy=>dN y.2:=by
 induction ps with
 |nil=>rfl
 |cons y ps ih=>rw[List.flatMap_cons,qA,ih,List.flatMap_cons]
theorem Gg(ps:List (List Va×List Pl)):(ps.flatMap (·.1)).map (·.name)=ps.flatMap λy=>y.1.map (·.name):=by
 induction ps with
 |nil=>rfl
 |cons y ps ih=>rw[List.flatMap_cons,List.map_append,ih,List.flatMap_cons]
structure afx(p:cY):Prop where
 chk:vm p=true
 enL:p.en.length<=1000
 enC:∀e∈p.en,e.ct.length<=1000
 i64:∀n∈p.nodes,∀x∈n.eqs,w8 x.e
theorem DQ{p}{i}{n:kZ}(N:MW p i n):((n.ins++n.outs++n.vars).map (varOf p i)).Pairwise λa b=>a.name≠b.name:=by rw[List.pairwise_map];exact N.once
theorem atb{p:cY}{i}{n}(hn:p.nodes[i]? =some n)(N:MW p i n){d:rN}(hd:d∈dA n)(h:d.on=[]):da p i d.name=some []:=by unfold da;rw[if_pos (List.getElem?_eq_some_iff.1 hn).1,fa hn];unfold mQ;rw[MD,Qx N.once hd];simp only;rw[if_pos h];rfl
theorem aaD{p:cY}(H:afx p){i}{n:kZ}(hn:p.nodes[i]? =some n):∃ps,Pcs p i (dU p) (fN p i n) n.eqs ps/\Ctx p i n (dU p) (fN p i n)/\(fN p i n).vars=n.vars.map (varOf p i)++ps.flatMap (·.1)/\(fN p i n).eqs=ps.flatMap (·.2)/\
 (eQ (fN p i n)).Pairwise (λa b=>a.name≠b.name):=by
 have hC:=abB H.chk;have N:=abC hC hn;have mn:∀(k:Nat) (g:kZ),p.nodes[k]? =some g->MW p k g:=λk g hg=>abC hC hg;have UI:∀(k:Nat) (g:kZ),p.nodes[k]? =some g->(ad (dU p) k).ins=g.ins.map (varOf p k)/\(ad (dU p) k).outs=g.outs.map (varOf p k):=λk g hg=>by
  have:ad (dU p) k=kf (fN p k g):=by unfold ad dU lK;simp only[Int.toNat_natCast];rw[List.getD_eq_getElem?_getD,List.getElem?_map,List.getElem?_mapIdx,hg];rfl
  rw[this];exact⟨rfl,rfl⟩
 have mk:∀f,(∀d∈dA n,fp f d.name=some (varOf p i d))->Ctx p i n (dU p) f:=λf adP=>
  ⟨hn,N,mn,rfl,apj (mz hC.pp).1,H.enL,H.enC,adP,UI⟩
 have hm:=List.mem_of_getElem? hn;have w5:=H.i64 n hm;have hd0:∀d∈dA n,fp ⟨[],n.ins.map (varOf p i),n.outs.map (varOf p i),n.vars.map (varOf p i),[]⟩ d.name=some (varOf p i d):=λd hd=>by
  unfold fp;have e:eQ ⟨[],n.ins.map (varOf p i),n.outs.map (varOf p i),n.vars.map (varOf p i),[]⟩=(n.ins++n.outs++n.vars).map (varOf p i):=by simp[eQ]
  rw[e];exact oK (DQ N) (List.mem_map.2 ⟨d,hd,rfl⟩) rfl
 obtain⟨ps0,a1,a2,a3⟩:=Lb (mk _ hd0) n.eqs [] ⟨0,n.vars.map (varOf p i),[]⟩ rfl w5;have ev:(fN p i n).vars=n.vars.map (varOf p i)++ps0.flatMap (·.1):=a2;have hu:(eQ (fN p i n)).Pairwise λa b=>a.name≠b.name:=by
  have e:eQ (fN p i n)=(n.ins++n.outs++n.vars).map (varOf p i)++ps0.flatMap (·.1):=by unfold eQ;rw[ev];simp[fN]
  rw[e];obtain⟨_,o2⟩:=Q9 N (pre:=[]) (r:=n.eqs) rfl a1;obtain⟨k1,_⟩:=Ci a1;refine List.pairwise_append.2 ⟨DQ N,?_,λa ha b hb e=> ?_⟩
  ·rw[<-Gg,List.pairwise_map]at o2;exact o2
  ·obtain⟨d,hd,rfl⟩:=List.mem_map.1 ha;have hbn:b.name∈ps0.flatMap λy=>y.1.map (·.name):=by rw[<-Gg];exact List.mem_map.2 ⟨b,hb,rfl⟩
   obtain⟨x,hx,k,_,e2⟩:=k1 _ hbn;exact yh (Cg N hd).2 (e2.symm.trans e.symm)
 have adP:∀d∈dA n,fp (fN p i n) d.name=some (varOf p i d):=λd hd=>by
  unfold fp;refine oK hu ?_ rfl;unfold eQ;rw[ev];have:varOf p i d∈(n.ins++n.outs++n.vars).map (varOf p i):=List.mem_map.2 ⟨d,hd,rfl⟩;simp only[List.map_append,List.mem_append]at this;simp only[fN,List.mem_append];rcases this with(h|h)|h
  ·exact .inl (.inl h)
  ·exact .inl (.inr h)
  ·exact .inr (.inl h)
 obtain⟨ps,b1,b2,b3⟩:=Lb (mk _ adP) n.eqs [] ⟨0,n.vars.map (varOf p i),[]⟩ rfl w5;exact⟨ps,b1,mk _ adP,b2,by rw[List.nil_append]at b3;exact b3,hu⟩
theorem amO{p}{i}{l:jw}{f}:∀{r:List wq} {ps:List (List Va×List Pl)},Pcs p i l f r ps->(∀y∈ps,∀v∈y.1,fp f v.name=some v)->(∀y∈ps,∀q∈y.2,IC l i f q)/\(∀y∈ps,∀v∈y.1,bq l.enums (z3 v)=true)/\ps.length=r.length/\∀y∈ps,y.2.length<=1000
 |[],[],_,_=>⟨λy hy=>by simp at hy,λy hy=>by simp at hy,rfl,λy hy=>by simp at hy⟩
 |x::r,y::ps,h,hv=>by
  obtain⟨h1,h2⟩:=h;obtain⟨g1,g2,g3,g4⟩:=amO h2 λz hz=>hv z (by simp[hz]);refine⟨λz hz=> ?_,λz hz=> ?_,by simp[g3],λz hz=> ?_⟩
  ·rcases List.mem_cons.1 hz with e|hz
   ·subst e;exact h1.ok (hv z (by simp))
   ·exact g1 z hz
  ·rcases List.mem_cons.1 hz with e|hz
   ·subst e;exact h1.ty
   ·exact g2 z hz
  ·rcases List.mem_cons.1 hz with e|hz
   ·subst e;exact h1.len.2
   ·exact g4 z hz
 |[],_::_,h,_=>h.elim
 |_::_,[],h,_=>h.elim
theorem Ra{α β}{g:α->List β}{k}:∀{l:List α},(∀x∈l,(g x).length<=k)->(l.flatMap g).length<=l.length*k
 |[],_=>by simp
 |x::l,h=>by have h1:=h x (by simp);have h2:=Ra (l:=l) (g:=g) (k:=k) λy hy=>h y (by simp[hy]);rw[List.flatMap_cons,List.length_append,List.length_cons,Nat.add_mul];omega
theorem ah8{p:cY}(H:afx p){i}{n}(hn:p.nodes[i]? =some n)(ho:(eH (fN p i n)).2=true):se (dU p) i (kf (fN p i n)):=by
 obtain⟨ps,h1,C,h2,h3,h4⟩:=aaD H hn;have N:=C.nod;have afy:=adR ho;have hva:eQ (kf (fN p i n))=eQ (fN p i n):=rfl;have hvo:∀s,fp (kf (fN p i n)) s=fp (fN p i n) s:=λs=>rfl;have mn:eQ (fN p i n)=(n.ins++n.outs++n.vars).map (varOf p i)++ps.flatMap (·.1):=by unfold eQ;rw[h2];simp[fN]
 have atc:∀y∈ps,∀v∈y.1,fp (fN p i n) v.name=some v:=λy hy v hv=>by unfold fp;refine oK h4 ?_ rfl;rw[mn];exact List.mem_append.2 (.inr (List.mem_flatMap.2 ⟨y,hy,hv⟩))
 obtain⟨g1,g2,g3,g4⟩:=amO h1 atc;obtain⟨k1,k2,k3,k4⟩:=Ci h1;obtain⟨o1,_⟩:=Q9 N (pre:=[]) (r:=n.eqs) rfl h1;have hnp:(dN (kf (fN p i n)).eqs).Perm (ps.flatMap λy=>dN y.2):=by rw[<-DP,<-h3];exact afy.flatMap_right _
 have UI:∀v∈ps.flatMap (·.1),v.name∈ps.flatMap λy=>y.1.map (·.name):=λv hv=>by rw[<-Gg];exact List.mem_map.2 ⟨v,hv,rfl⟩
 have aqL:∀d∈dA n,pz d.name=true:=λd hd=>(Cg N hd).2;have iP:=N.few;refine⟨h4,λv hv=> ?_,λv hv=> ?_,λq hq=> ?_,?_,λs hs d hd e=> ?_,λv hv=> ?_,λk q hq s hs=> ?_,?_⟩
 ·rw[hva,mn]at hv;rcases List.mem_append.1 hv with hv|hv
  ·obtain⟨d,hd,rfl⟩:=List.mem_map.1 hv;have hl:=aqL d hd;exact⟨(Cg N hd).1,amF hl,(IQ hl).1,by have:=(K9 hl).2;show d.name.length<=1000;omega⟩
  ·obtain⟨y,hy,zb⟩:=List.mem_flatMap.1 hv;refine⟨g2 y hy v zb,?_⟩;obtain⟨x,hx,k,hk,e⟩:=k1 _ (UI v hv);have hxl:=(Gf N hx).1 _ (uM (d:=[]) (Gf N hx).2);rw[e];exact⟨Q2 _ _,ah5 hxl _,ah6 hxl (by omega) (by omega)⟩
 ·have:∃d∈n.ins++n.outs,v=varOf p i d:=by
   have zb:v∈(n.ins++n.outs).map (varOf p i):=by rw[List.map_append];exact hv
   obtain⟨d,hd,e⟩:=List.mem_map.1 zb;exact⟨d,hd,e.symm⟩
  obtain⟨d,hd,rfl⟩:=this;have hda:d∈dA n:=by unfold dA;exact List.mem_append.2 (.inl hd)
  unfold varOf;rw[atb hn N hda (N.io d hd)];rfl
 ·have Zi:=afy.mem_iff.1 hq;rw[h3]at Zi;obtain⟨y,hy,Ev⟩:=List.mem_flatMap.1 Zi;have:=g1 y hy q Ev;refine⟨this.ne,this.nm,this.on,this.len,this.rs,?_⟩;rcases this.body with⟨b1,b2⟩|b
  ·refine .inl ⟨b1,?_⟩;cases b2 with
   |copy a on h1 h2 h3 h4=>exact .copy a on h1 h2 h3 h4
   |un a u h1 h2 h3 h4=>exact .un a u h1 h2 h3 h4
   |bin a b u w h1 h2 h3 h4 h5=>exact .bin a b u w h1 h2 h3 h4 h5
   |ite a b c h1 h2 h3 h4 h5=>exact .ite a b c h1 h2 h3 h4 h5
   |fby a h1 h2 h3 h4=>exact .fby a h1 h2 h3 h4
   |F7 x v a b h1 h2 h3 h4 h5 h6 h7 h8=>exact .F7 x v a b h1 h2 h3 h4 h5 h6 h7 h8
   |F8 x v la h1 h2 h3 h4 h5 h6 h7 h8=>exact .F8 x v la h1 h2 h3 h4 h5 h6 h7 h8
   |arr h1 h2 h3 h4=>exact .arr h1 h2 h3 h4
   |at_ a b u h1 h2 h3 h4 h5 h6=>exact .at_ a b u h1 h2 h3 h4 h5 h6
   |set a b c h1 h2 h3 h4 h5 h6=>exact .set a b c h1 h2 h3 h4 h5 h6
  ·exact .inr ⟨b.kind,b.node,b.ins,b.arg,b.outs,b.out,b.every⟩
 ·exact(hnp.pairwise_iff (λh=>h.symm)).2 o1
 ·have um:=hnp.mem_iff.1 hs;have oF:∃d'∈n.ins,d=varOf p i d':=by obtain⟨d',h,e⟩:=List.mem_map.1 (show d∈n.ins.map (varOf p i) from hd);exact⟨d',h,e.symm⟩
  obtain⟨d',hd1,rfl⟩:=oF;have hda:d'∈dA n:=by unfold dA;exact List.mem_append.2 (.inl (List.mem_append.2 (.inl hd1)))
  rcases k2 s um with z6|⟨x,hx,z6⟩
  ·obtain⟨x,hx,k,_,e2⟩:=k1 s z6;exact yh (aqL d' hda) (e2.symm.trans e.symm)
  ·obtain⟨j,hj⟩:=List.getElem?_of_mem hx;obtain⟨nv,_,_⟩:=Cf (N.nms j x hj);have:=(nv s z6).2.1;unfold wJ at this;rw[List.any_eq_false]at this;exact this d' hd1 (by simpa[varOf]using e)
 ·refine hnp.mem_iff.2 ?_;rcases List.mem_append.1 hv with hv|hv
  ·obtain⟨d,hd,rfl⟩:=List.mem_map.1 (show v∈n.outs.map (varOf p i) from hv);obtain⟨x,hx,hs⟩:=N.Wo d (List.mem_append.2 (.inl hd));exact k4 x hx _ hs
  ·rw[show(kf (fN p i n)).vars=(fN p i n).vars from rfl,h2]at hv;rcases List.mem_append.1 hv with hv|hv
   ·obtain⟨d,hd,rfl⟩:=List.mem_map.1 hv;obtain⟨x,hx,hs⟩:=N.Wo d (List.mem_append.2 (.inr hd));exact k4 x hx _ hs
   ·exact k3 _ (UI v hv)
 ·have Zi:=List.mem_of_getElem? hq;have hqe:=afy.mem_iff.1 Zi;rw[h3]at hqe;obtain⟨y,hy,Ev⟩:=List.mem_flatMap.1 hqe;have hG:=g1 y hy q Ev;have adO:∃v,fp (fN p i n) s=some v:=by
   unfold fF at hs;obtain⟨kB,z6⟩:=List.mem_filter.1 hs;have hsn:s≠[]:=by simpa using z6
   have WQ:∀(a:xx) (t:Ty) (on:List dY),ky (dU p).enums (fN p i n) a t on->a.1=s->∃v,fp (fN p i n) s=some v:=λa t on ha e=>by
    rcases ha with⟨h,_⟩|⟨_,v,hv,_⟩
    ·exact absurd (e.symm.trans h) hsn
    ·exact⟨v,e▸hv⟩
   rcases List.mem_append.1 kB with kB|kB
   ·rcases List.mem_append.1 kB with kB|kB
    ·split at kB
     ·simp at kB
     ·rename_i k5;obtain⟨a,ha,e⟩:=List.mem_map.1 kB;rcases hG.body with⟨_,b⟩|b
      ·cases b with
       |copy a' on h1 h2 h3 h4=>rw[h2]at ha;simp at ha;subst ha;exact WQ _ _ _ h4 e
       |un a' u h1 h2 h3 h4=>rw[h2]at ha;simp at ha;subst ha;exact WQ _ _ _ h3 e
       |bin a' b u w h1 h2 h3 h4 h5=>
        rw[h2]at ha;simp at ha;rcases ha with rfl|rfl
        ·exact WQ _ _ _ h3 e
        ·exact WQ _ _ _ h4 e
       |ite a' b c h1 h2 h3 h4 h5=>
        rw[h2]at ha;simp at ha;rcases ha with rfl|rfl|rfl
        ·exact WQ _ _ _ h3 e
        ·exact WQ _ _ _ h4 e
        ·exact WQ _ _ _ h5 e
       |fby a' h1 h2 h3 h4=>exact absurd h1 k5
       |F7 x v a' b h1 h2 h3 h4 h5 h6 h7 h8=>
        rw[h2]at ha;simp at ha;rcases ha with rfl|rfl|rfl
        ·exact⟨v,e▸h4⟩
        ·exact WQ _ _ _ h7 e
        ·exact WQ _ _ _ h8 e
       |F8 x v la h1 h2 h3 h4 h5 h6 h7 h8=>
        rw[h2]at ha;rcases List.mem_cons.1 ha with rfl|ha
        ·exact⟨v,e▸h4⟩
        ·obtain⟨j,hj⟩:=List.getElem?_of_mem ha;exact WQ _ _ _ (h8 j a hj) e
       |arr h1 h2 h3 h4=>exact WQ _ _ _ (h3 a ha) e
       |at_ a' b u h1 h2 h3 h4 h5 h6=>
        rw[h2]at ha;simp at ha;rcases ha with rfl|rfl
        ·exact WQ _ _ _ h3 e
        ·exact WQ _ _ _ h5 e
       |set a' b c h1 h2 h3 h4 h5 h6=>
        rw[h2]at ha;simp at ha;rcases ha with rfl|rfl|rfl
        ·exact WQ _ _ _ h3 e
        ·exact WQ _ _ _ h5 e
        ·exact WQ _ _ _ h6 e
      ·obtain⟨j,hj⟩:=List.getElem?_of_mem ha;have hjl:j<(ad (dU p) q.node).ins.length:=by rw[<-b.ins];exact(List.getElem?_eq_some_iff.1 hj).1
       exact WQ _ _ _ (b.arg j a _ hj (List.getElem?_eq_getElem hjl)) e
    ·split at kB
     ·rename_i hr;simp at kB;rcases hG.body with⟨_,b⟩|b
      ·have:=hG.rs.1 hr;cases b<;>omega
      ·exact WQ _ _ _ (b.every hr) kB.symm
     ·simp at kB
   ·obtain⟨c,hc,e⟩:=List.mem_map.1 kB;obtain⟨_,v,hv⟩:=hG.on c hc;exact⟨v,e▸hv⟩
  obtain⟨v,hv⟩:=adO;obtain⟨m1,m2⟩:=nn hv;have Lg:s∈(fN p i n).ins.map (·.name)\/s∈dN (fN p i n).eqs:=by
   rw[h3,DP];rw[mn]at m1;rcases List.mem_append.1 m1 with m1|m1
   ·obtain⟨d,hd,rfl⟩:=List.mem_map.1 m1;rcases List.mem_append.1 hd with hd|hd
    ·rcases List.mem_append.1 hd with hd|hd
     ·exact .inl (List.mem_map.2 ⟨varOf p i d,List.mem_map.2 ⟨d,hd,rfl⟩,m2⟩)
     ·obtain⟨x,hx,um⟩:=N.Wo d (List.mem_append.2 (.inl hd));exact .inr (m2▸k4 x hx _ um)
    ·obtain⟨x,hx,um⟩:=N.Wo d (List.mem_append.2 (.inr hd));exact .inr (m2▸k4 x hx _ um)
   ·exact .inr (m2▸k3 _ (UI v m1))
  rcases Lg with Lg|Lg
  ·exact .inl Lg
  ·exact .inr (ah7 ho k q hq s hs Lg)
 ·have hl:=afy.length_eq;rw[h3]at hl;have:=Ra (l:=ps) (g:=(·.2)) (k:=1000) g4;rw[g3]at this;refine⟨by show(n.ins.map (varOf p i)).length<=1000;rw[List.length_map];omega,by show(n.outs.map (varOf p i)).length<=1000;rw[List.length_map];omega,?_⟩;rw[hl];have:n.eqs.length*1000<=18*1000:=Nat.mul_le_mul_right _ iP.2.2.2;omega
theorem IC.init{l}{i}{f}{q:Pl}(h:IC l i f q):q.init.length<=8:=by
 by_cases hn:q.init=[]
 ·rw[hn];simp
 have k:=h.rs.2 hn;rcases h.body with⟨_,b⟩|b
 ·cases b<;>first|omega|exact RI.len (by assumption)|>.2
 ·have:=b.kind;omega
theorem se.caps{l}{i}{f:Fl}(h:se l i f):WX f/\∀q∈f.eqs,adz q:=by
 have hc:bI=140737488355328:=rfl;refine⟨?_,λq hq=>⟨?_,λs hs=> ?_⟩⟩
 ·have:=h.sz.2.2;unfold WX;omega
 ·have:=(h.eq q hq).init;omega
 ·obtain⟨v,hv,_⟩:=(h.eq q hq).nm s hs;obtain⟨m1,m2⟩:=nn hv;have:=(h.var v m1).2.2.2;rw[m2]at this;omega
theorem aa7{p}(H:afx p)(hs:wv p=true):mC (dU p):=by
 have Sk:∀(i:Nat) (f:Fl),(dU p).fs[i]? =some f->se (dU p) i f:=λi f hf=>by
  simp only[dU,lK,List.getElem?_map,List.getElem?_mapIdx]at hf;cases hn:p.nodes[i]? with
  |none=>rw[hn]at hf;simp at hf
  |some n=>
   rw[hn]at hf;simp at hf;subst hf;refine ah8 H hn ?_;simp only[wv,Bool.and_eq_true,List.all_eq_true]at hs;exact hs.2 _ (List.mem_of_getElem? (i:=i) (by simp[lK,hn]))
 have Rx:∀f∈(dU p).fs,WX f/\∀q∈f.eqs,adz q:=λf hf=>by obtain⟨i,hi⟩:=List.getElem?_of_mem hf;exact(Sk i f hi).caps
 refine⟨Sk,⟨?_,λf hf=>(Rx f hf).1⟩,λf hf=>(Rx f hf).2⟩;have:=(mz (abB H.chk).pp).2.2.1;simp only[dU,lK,List.length_map,List.length_mapIdx];omega
theorem aqP{p:cY}(hs:wv p=true)(h:bx p=true)(w5:∀n∈p.nodes,∀x∈n.eqs,w8 x.e):afx p:=by simp only[wv,Bool.and_eq_true]at hs;simp only[bx,ub,wI,Bool.and_eq_true,List.all_eq_true,decide_eq_true_eq]at h;refine⟨hs.1,by omega,λe he=> ?_,w5⟩;have:=h.1.1.2 e he;omega
end Go.Proofs.YtcokmopocppmiaaGreat

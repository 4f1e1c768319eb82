/- What programs that are checked are: facts for the theory of their plain equations. -/
import Derived.Test.YtcokmopocppmiaaGreatStW
set_option linter.all false
set_option maxRecDepth 20000
namespace Go.Proofs.YtcokmopocppmiaaGreat
open Go.Nk
theorem kn{α}{f}:∀{l:List α} {i:Nat},aX f i l=eu->∀(k:Nat) (x:α),l[k]? =some x->f (i+k) x=eu
 |[],_,_,k,x,h=>by simp at h
 |y::l,i,h,k,x,hx=>by
  rw[aX]at h;by_cases c:f i y=eu
  ·rw[if_pos c]at h;cases k with
   |zero=>simp at hx;subst hx;exact c
   |succ k=>
    have:=kn h k x (by simpa using hx);rwa[show i+1+k=i+(k+1) by omega]at this
  ·rw[if_neg c]at h;exact absurd h c
structure Chk(p:cY):Prop where
 pp:kj p=0
 s:∀(i:Nat) (n:kZ),p.nodes[i]? =some n->pq p i n=eu
 t:∀(i:Nat) (n:kZ),p.nodes[i]? =some n->qh p i n=eu
 c:∀(i:Nat) (n:kZ),p.nodes[i]? =some n->qg p i n=eu
theorem abB{p}(h:vm p=true):Chk p:=by
 have h1:nJ p=eu:=by simpa[vm]using h
 have h2:kS p=eu:=by
  unfold nJ at h1;split at h1
  ·assumption
  ·rename_i c;simpa using c
 have h3:iU p=eu:=by
  unfold kS at h2;split at h2
  ·assumption
  ·rename_i c;simpa using c
 have h4:iV p=eu/\aX (qg p) 0 p.nodes=eu:=by
  unfold iU at h3;split at h3
  ·rename_i c;exact absurd h3 c
  ·rename_i c;exact⟨by simpa using c,h3⟩
 have h5:fX p=eu/\aX (qh p) 0 p.nodes=eu:=by
  have:=h4.1;unfold iV at this;split at this
  ·rename_i c;exact absurd this c
  ·rename_i c;exact⟨by simpa using c,this⟩
 have h6:kj p=0/\aX (pq p) 0 p.nodes=eu:=by
  have:=h5.1;unfold fX at this;split at this
  ·rename_i c;simp only[eu,Prod.mk.injEq]at this;exact absurd this.2.2 c
  ·rename_i c;exact⟨by simpa using c,this⟩
 refine⟨h6.1,λi n hn=> ?_,λi n hn=> ?_,λi n hn=> ?_⟩
 ·have:=kn h6.2 i n hn;rwa[Nat.zero_add]at this
 ·have:=kn h5.2 i n hn;rwa[Nat.zero_add]at this
 ·have:=kn h4.2 i n hn;rwa[Nat.zero_add]at this
structure MW(p:cY)(i:Nat)(n:kZ):Prop where
 decl:∀d∈dA n,wH p.en d=true
 io:∀d∈n.ins++n.outs,d.on=[]
 eqs:∀x∈n.eqs,Et x=true
 once:(dA n).Pairwise λa b=>a.name≠b.name
 few:n.ins.length<=6/\n.outs.length<=6/\n.vars.length<=12/\n.eqs.length<=18
 onV:∀d∈dA n,d.on≠[]->Vo n d.on=true/\my p.en d.ct=true
 nms:∀(k:Nat) (x:wq),n.eqs[k]? =some x->nT n k [] x.names=0
 part:∀x∈n.eqs,∀y∈ax x.e,oy p i y=true
 Wo:∀d∈n.outs++n.vars,∃x∈n.eqs,d.name∈x.names
 onT:∀d∈dA n,d.on≠[]->((eT n d.on).getD default).ty=(fA p.en d.ct).1
 ty:∀x∈n.eqs,AR p i x=true
 row:∀d∈dA n,(da p i d.name).isSome=true
 cl:∀x∈n.eqs,GW p i x=true
theorem fa{p:cY}{i}{n}(h:p.nodes[i]? =some n):nodeAt p i=n:=by unfold nodeAt;rw[List.getD_eq_getElem?_getD,h];rfl
theorem ahI{α}{g:α->List UInt8}{l:List α}(h:ri (l.map g)=true):l.Pairwise λa b=>g a≠g b:=by unfold ri at h;rw[decide_eq_true_eq,List.pairwise_map]at h;exact h
theorem mz{p:cY}(h:kj p=0):qm p.en=0/\0<p.nodes.length/\p.nodes.length<=6/\(∀n∈p.nodes,manyN n=false)/\(∀n∈p.nodes,nO p.en n=true)/\(∀n∈p.nodes,Lw n=true)/\ri (p.nodes.map (·.name))=true:=by
 unfold kj at h;split at h
 ·rename_i c;exact absurd h c
 rename_i c1;split at h
 ·omega
 split at h
 ·omega
 split at h
 ·omega
 rename_i c4;split at h
 ·omega
 rename_i c5;split at h
 ·omega
 rename_i c6;simp only[Bool.not_eq_true',Bool.not_eq_false,List.all_eq_true,Bool.and_eq_true]at c5 c6;simp only[List.any_eq_true,not_exists,not_and,Bool.not_eq_true]at c4;exact⟨by simpa using c1,by omega,by omega,c4,c5,c6.1,c6.2⟩
theorem abC{p:cY}(h:Chk p){i}{n}(hn:p.nodes[i]? =some n):MW p i n:=by
 obtain⟨_,_,_,q4,q5,q6,_⟩:=mz h.pp;have hm:=List.mem_of_getElem? hn;have k4:=q4 n hm;have k5:=q5 n hm;have k6:=q6 n hm;have hs:=h.s i n hn;have ht:=h.t i n hn;have hc:=h.c i n hn;have hna:=fa hn;simp only[nO,Bool.and_eq_true,List.all_eq_true,beq_iff_eq]at k5;simp only[manyN,Bool.or_eq_false_iff,decide_eq_false_iff_not]at k4;have s1:∀d∈dA n,onE p n d=false:=by
  unfold pq at hs;split at hs
  ·simp[eu]at hs
  ·rename_i c;intro d hd;exact Bool.eq_false_iff.2 λe=>c (List.any_eq_true.2 ⟨d,hd,e⟩)
 have s2:aX (vu p i) 0 n.eqs=eu/\(n.outs++n.vars).any (λd=>fC n d.name n.eqs.length==0)=false:=by
  unfold pq at hs;split at hs
  ·simp[eu]at hs
  ·split at hs
   ·rename_i c;exact absurd hs c
   ·rename_i c;split at hs
    ·simp[eu]at hs
    ·rename_i c2;exact⟨by simpa using c,by simpa using c2⟩
 have s3:∀(k:Nat) (x:wq),n.eqs[k]? =some x->eqE p i k x=0:=λk x hx=>by
  have:=kn s2.1 k x hx;rw[Nat.zero_add]at this;unfold vu at this;split at this
  ·assumption
  ·rename_i c;simp only[eu,Prod.mk.injEq]at this;exact absurd this.2.2 c
 have t1:(dA n).all (XZ p n)=true/\∀(k:Nat) (x:wq),n.eqs[k]? =some x->AR p i x=true:=by
  unfold qh at ht;split at ht
  ·simp[eu]at ht
  ·rename_i c;refine⟨by simpa using c,λk x hx=> ?_⟩;have:=kn ht k x hx;by_cases e:AR p i x=true
   ·exact e
   ·simp[e,eu]at this
 have c1:(dA n).all (λd=>(da p i d.name).isSome)=true/\∀(k:Nat) (x:wq),n.eqs[k]? =some x->GW p i x=true:=by
  unfold qg at hc;split at hc
  ·simp[eu]at hc
  ·rename_i c;refine⟨by rw[Bool.not_eq_true',Bool.not_eq_false]at c;exact c,λk x hx=> ?_⟩;have:=kn hc k x hx;by_cases e:GW p i x=true
   ·exact e
   ·simp[e,eu]at this
 have ix:∀x∈n.eqs,∃k,n.eqs[k]? =some x:=λx hx=>by obtain⟨k,hk⟩:=List.getElem?_of_mem hx;exact⟨k,hk⟩
 refine⟨k5.1.1.1.1,λd hd=>k5.1.1.1.2 d hd,k5.1.1.2,ahI k6,by omega,λd hd bw=> ?_,λk x hx=> ?_,λx hx y hy=> ?_,λd hd=> ?_,λd hd bw=> ?_,λx hx=> ?_,λd hd=> ?_,λx hx=> ?_⟩
 ·have:=s1 d hd;have e:(d.on !=[])=true:=by simpa using bw
  simp only[onE,e,Bool.true_and,Bool.or_eq_false_iff,Bool.not_eq_false']at this;exact this
 ·have:=s3 k x hx;unfold eqE at this;rw[hna]at this;split at this
  ·rename_i c;exact absurd this c
  ·rename_i c;simpa using c
 ·obtain⟨k,hk⟩:=ix x hx;have:=s3 k x hk;unfold eqE at this;split at this
  ·rename_i c;exact absurd this c
  ·split at this
   ·rename_i c;exact List.all_eq_true.1 c y hy
   ·omega
 ·have:=List.any_eq_false.1 s2.2 d hd;simp only[fC,List.take_length,beq_iff_eq]at this;have hl:0<((n.eqs.flatMap (·.names)).filter (·==d.name)).length:=by omega
  obtain⟨y,hy⟩:=List.exists_mem_of_length_pos hl;obtain⟨hy1,N1⟩:=List.mem_filter.1 hy;obtain⟨x,hx,DW⟩:=List.mem_flatMap.1 hy1;simp only[beq_iff_eq]at N1;exact⟨x,hx,N1▸DW⟩
 ·have:=List.all_eq_true.1 t1.1 d hd;simp only[XZ,Bool.or_eq_true,beq_iff_eq,decide_eq_true_eq]at this;exact this.resolve_left bw
 ·obtain⟨k,hk⟩:=ix x hx;exact t1.2 k x hk
 ·exact List.all_eq_true.1 c1.1 d hd
 ·obtain⟨k,hk⟩:=ix x hx;exact c1.2 k x hk
theorem oD{n}{s}{d:rN}(h:eT n s=some d):d∈dA n/\d.name=s:=by unfold eT at h;exact⟨List.mem_of_find?_eq_some h,by simpa using List.find?_some h⟩
theorem Qx{n}(hu:(dA n).Pairwise λa b=>a.name≠b.name){d:rN}(hd:d∈dA n):eT n d.name=some d:=by
 unfold eT;have key:∀l:List rN,l.Pairwise (λa b=>a.name≠b.name)->d∈l->l.find? (λv=>v.name==d.name)=some d:=by
  intro l;induction l with
  |nil=>intro _ h;simp at h
  |cons x l ih=>
   intro hp h;obtain⟨h1,h2⟩:=List.pairwise_cons.1 hp;rw[List.find?_cons];rcases List.mem_cons.1 h with h|h
   ·subst h;simp
   ·have:(x.name==d.name)=false:=by simpa using h1 d h
    rw[this];exact ih h2 h
 exact key _ hu hd
theorem Cf{n}{i}:∀{l pre:List (List UInt8)},nT n i pre l=0->(∀s∈l,Vo n s=true/\wJ n s=false/\fC n s i=0)/\l.Pairwise (·≠·)/\∀s∈l,s∉pre
 |[],_,_=>⟨λs hs=>by simp at hs,.nil,λs hs=>by simp at hs⟩
 |x::l,pre,h=>by
  rw[nT]at h;split at h
  ·omega
  rename_i c1;split at h
  ·omega
  rename_i c2;simp only[Bool.or_eq_true,not_or,Bool.not_eq_true,decide_eq_false_iff_not,List.any_eq_false,beq_iff_eq]at c2;obtain⟨k1,k2,k3⟩:=Cf h;have hz:0<=fC n x i:=by unfold fC;omega
  refine⟨λs hs=> ?_,List.pairwise_cons.2 ⟨λy hy e=>k3 y hy (by rw[<-e];simp),k2⟩,λs hs hm=> ?_⟩
  ·rcases List.mem_cons.1 hs with e|hs
   ·subst e;exact⟨by simpa using c1,c2.1.1,by omega⟩
   ·exact k1 s hs
  ·rcases List.mem_cons.1 hs with e|hs
   ·subst e;exact c2.2 s hm rfl
   ·exact k3 s hs (by simp[hm])
structure ami(l:List En):Prop where
 ne:∀e∈l,0<e.ct.length
 high:∀e∈l,∀c∈e.ct,Dw c=true
 once:((l.map (·.ct)).flatten).Pairwise (·≠·)
theorem apj{l}(h:qm l=0):ami l:=by
 unfold qm at h;split at h
 ·omega
 split at h
 ·omega
 rename_i c2;split at h
 ·omega
 rename_i c3;split at h
 ·rename_i c4;simp only[Bool.not_eq_true,List.any_eq_false,Bx,Bool.or_eq_true,not_or,beq_iff_eq,Bool.not_eq_false']at c2 c3;simp only[Bool.and_eq_true]at c4;refine⟨λe he=> ?_,λe he c hc=> ?_,?_⟩
  ·have:=(c2 e he).2;omega
  ·have:=c3 c (List.mem_flatten.2 ⟨e.ct,List.mem_map.2 ⟨e,he,rfl⟩,hc⟩);simpa using this
  ·have:=c4.2;unfold ri jv at this;exact of_decide_eq_true this
 ·omega
theorem aah{nm}{i}{rest}:∀{ct:List (List UInt8)} {k:Nat},(∃j:Nat,∃c,ct[j]? =some c/\c=nm/\lv nm (wY i k ct++rest)=((i:Int),((k+j:Nat):Int),true))\/((∀c∈ct,c≠nm)/\lv nm (wY i k ct++rest)=lv nm rest)
 |[],k=> .inr ⟨λc hc=>by simp at hc,rfl⟩
 |c::ct,k=>by
  by_cases e:c=nm
  ·exact .inl ⟨0,c,rfl,e,by simp[wY,lv,e]⟩
  ·rcases aah (nm:=nm) (i:=i) (rest:=rest) (ct:=ct) (k:=k+1)with⟨j,c',h1,h2,h3⟩|⟨h1,h2⟩
   ·exact .inl ⟨j+1,c',by simpa using h1,h2,by
     simp only[wY,List.cons_append,lv,if_neg e,h3];congr 2;omega⟩
   ·refine .inr ⟨λx hx=> ?_,by simp only[wY,List.cons_append,lv,if_neg e,h2]⟩;rcases List.mem_cons.1 hx with hx|hx
    ·rw[hx];exact e
    ·exact h1 x hx
theorem Wp{nm}:∀{l:List En} {k:Nat},(∃a j:Nat,∃e c,l[a]? =some e/\e.ct[j]? =some c/\c=nm/\lv nm (kr k l)=(((k+a:Nat):Int),(j:Int),true))\/((∀e∈l,∀c∈e.ct,c≠nm)/\lv nm (kr k l)=(0,0,false))
 |[],k=> .inr ⟨λe he=>by simp at he,rfl⟩
 |e::l,k=>by
  rw[kr];rcases aah (nm:=nm) (i:=k) (rest:=kr (k+1) l) (ct:=e.ct) (k:=0)with⟨j,c,h1,h2,h3⟩|⟨h1,h2⟩
  ·exact .inl ⟨0,j,e,c,rfl,h1,h2,by rw[h3];simp⟩
  ·rw[h2];rcases Wp (nm:=nm) (l:=l) (k:=k+1)with⟨a,j,e',c,g1,g2,g3,g4⟩|⟨g1,g2⟩
   ·exact .inl ⟨a+1,j,e',c,by simpa using g1,g2,g3,by rw[g4];congr 2;omega⟩
   ·refine .inr ⟨λx hx=> ?_,g2⟩;rcases List.mem_cons.1 hx with hx|hx
    ·rw[hx];exact h1
    ·exact g1 x hx
theorem apk{l:List En}(h:ami l){a j:Nat}{e:En}{c:List UInt8}(h1:l[a]? =some e)(h2:e.ct[j]? =some c):lv c (kr 0 l)=((a:Int),(j:Int),true):=by
 rcases Wp (nm:=c) (l:=l) (k:=0)with⟨a',j',e',c',g1,g2,g3,g4⟩|⟨g1,_⟩
 ·rw[g4];have key:∀(l:List En),((l.map (·.ct)).flatten).Pairwise (·≠·)->∀(a a':Nat) (e e':En) (j j':Nat),l[a]? =some e->l[a']? =some e'->e.ct[j]? =some c->e'.ct[j']? =some c->a=a'/\j=j':=by
   intro l;induction l with
   |nil=>intro _ a _ e _ _ _ h;simp at h
   |cons x l ih=>
    intro hp a a' e e' j j' q1 q2 q3 q4;rw[List.map_cons,List.flatten_cons,List.pairwise_append]at hp;have far:∀(b:Nat) (y:En),l[b]? =some y->∀z∈y.ct,z∈(l.map (·.ct)).flatten:=λb y hb z hz=>List.mem_flatten.2 ⟨y.ct,List.mem_map.2 ⟨y,List.mem_of_getElem? hb,rfl⟩,hz⟩;cases a with
    |zero=>
     simp at q1;cases a' with
     |zero=>
      simp at q2;subst q1;subst q2;refine⟨rfl,?_⟩;have hnd:x.ct.Nodup:=hp.1;obtain⟨l1,v1⟩:=List.getElem?_eq_some_iff.1 q3;obtain⟨l2,v2⟩:=List.getElem?_eq_some_iff.1 q4;exact(List.getElem_inj hnd).1 (v1.trans v2.symm)
     |succ b=>
      simp at q2;subst q1;exact absurd rfl (hp.2.2 c (List.mem_of_getElem? q3) c (far b e' q2 c (List.mem_of_getElem? q4)))
    |succ b=>
     simp at q1;cases a' with
     |zero=>
      simp at q2;subst q2;exact absurd rfl (hp.2.2 c (List.mem_of_getElem? q4) c (far b e q1 c (List.mem_of_getElem? q3)))
     |succ b'=>
      simp at q2;obtain⟨k1,k2⟩:=ih hp.2.1 b b' e e' j j' q1 q2 q3 q4;exact⟨by omega,k2⟩
  obtain⟨k1,k2⟩:=key l h.once a a' e e' j j' h1 g1 h2 (g3▸g2);rw[k1,k2,Nat.zero_add]
 ·exact absurd rfl (g1 e (List.mem_of_getElem? h1) c (List.mem_of_getElem? h2))
theorem apl{c}(h:Dw c=true):c≠[116,114,117,101]/\c≠[102,97,108,115,101]:=by constructor<;>(intro e;subst e;revert h;decide)
theorem ahJ{p:cY}(h:ami p.en){a j:Nat}{e:En}{c:List UInt8}(h1:p.en[a]? =some e)(h2:e.ct[j]? =some c):tQ p c=j:=by have hc:=apl (h.high e (List.mem_of_getElem? h1) c (List.mem_of_getElem? h2));have e1:=apk h h1 h2;unfold tQ fA;rw[if_neg hc.1,if_neg hc.2,e1];rfl
theorem ahK{l:List En}(hl:l.length<=1000){s}(h:my l s=true)(hb:∀e∈l,e.ct.length<=1000):RI l (fA l s).1 [(fA l s).2.1]/\(fA l s).1.n=0:=by
 unfold my at h;unfold fA at h|-;split
 ·exact⟨RI.bool (.inr rfl),rfl⟩
 ·split
  ·exact⟨RI.bool (.inl rfl),rfl⟩
  ·rename_i c1 c2;rw[if_neg c1,if_neg c2]at h;rcases Wp (nm:=s) (l:=l) (k:=0)with⟨a,j,e,c,g1,g2,g3,g4⟩|⟨_,g2⟩
   ·rw[g4];simp only[if_true,Nat.zero_add];obtain⟨la,_⟩:=List.getElem?_eq_some_iff.1 g1;obtain⟨lj,_⟩:=List.getElem?_eq_some_iff.1 g2;have:=hb e (List.mem_of_getElem? g1);refine⟨RI.single (by simp[bq];omega) rfl ?_ (by unfold gD;omega),trivial⟩;have he:l.getD a default=e:=by rw[List.getD_eq_getElem?_getD,g1];rfl
    simp only[wP,Int.reduceEq,if_false,Int.toNat_natCast,he];simp;exact lj
   ·rw[g2]at h;simp at h
theorem apm{l}(h:ami l){t}(ht:bq l t=true):RI l t (zeroV t):=by
 have hb:=Kl t;refine RI.mk' ht (by unfold zeroV;rw[List.length_replicate];omega) λn hn=> ?_;unfold zeroV at hn;obtain⟨_,rfl⟩:=List.mem_replicate.1 hn;refine⟨?_,by unfold gD;omega⟩;unfold wP;split
 ·rfl
 ·rename_i c;rcases VD ht with k|k|k
  ·simp[k]
  ·exact absurd k c
  ·simp only[bq,k,if_true,Bool.and_eq_true,decide_eq_true_eq]at ht;have hm:(l.getD t.e.toNat default)∈l:=by rw[List.getD_eq_getElem?_getD,List.getElem?_eq_getElem (show t.e.toNat<l.length by omega)];exact List.getElem_mem _
   have:=h.ne _ hm;simp only[Bool.or_eq_true,Bool.and_eq_true,decide_eq_true_eq];exact .inr ⟨Int.le_refl _,by omega⟩
def w8(e:Ex):Prop:=∀x∈ax e,gD x.n
theorem iJ(e):e∈ax e:=by rw[iA];simp
theorem oC{e x:Ex}(h:x∈e.ar):∀y∈ax x,y∈ax e:=by
 intro y hy;rw[iA];refine List.mem_cons_of_mem _ ?_;have key:∀l:List Ex,x∈l->y∈bC l:=by
  intro l;induction l with
  |nil=>intro h;simp at h
  |cons z l ih=>
   intro h;rw[bC];rcases List.mem_cons.1 h with e|h
   ·subst e;exact List.mem_append.2 (.inl hy)
   ·exact List.mem_append.2 (.inr (ih h))
 exact key _ h
theorem TM{l:List En}(hl:l.length<=1000)(hb:∀e∈l,e.ct.length<=1000){e:Ex}(hn:gD e.n)(hp:kG e=true){n}{t:Ty}(h:abO l e=some (n,t)):RI l t [n]/\t.n=0:=by
 unfold abO at h;split at h
 ·simp at h;obtain⟨rfl,rfl⟩:=h;exact⟨RI.int hn,rfl⟩
 ·split at h
  ·rename_i c;simp at h;obtain⟨rfl,rfl⟩:=h;refine⟨RI.bool ?_,rfl⟩;simp only[kG,c]at hp;simp at hp;exact hp.2
  ·split at h
   ·simp at h;obtain⟨rfl,rfl⟩:=h;exact⟨RI.int (tl _),rfl⟩
   ·split at h
    ·rename_i c;simp at h;obtain⟨rfl,rfl⟩:=h;exact ahK hl c hb
    ·cases h
theorem Qy{l:List En}(hl:l.length<=1000)(hb:∀e∈l,e.ct.length<=1000):∀{xs:List Ex} {first:Bool} {t0:Ty} {v:List Int} {t:Ty},(∀x∈xs,gD x.n/\kG x=true)->pW l first t0 xs=some (v,t)->
 v.length=xs.length/\(first=false->t=t0)/\(xs≠[]->(∀n∈v,RI l t [n])/\t.n=0)
 |[],first,t0,v,t,_,h=>by simp only[pW,Option.some.injEq,Prod.mk.injEq]at h;obtain⟨rfl,rfl⟩:=h;exact⟨rfl,λ_=>rfl,λe=>absurd rfl e⟩
 |x::xs,first,t0,v,t,hx,h=>by
  rw[pW]at h;split at h
  ·cases h
  ·rename_i n u azZ;split at h
   ·cases h
   ·rename_i c;rw[Option.map_eq_some_iff]at h;obtain⟨⟨v',t'⟩,h1,h2⟩:=h;simp only[Prod.mk.injEq]at h2;obtain⟨rfl,rfl⟩:=h2;obtain⟨g1,g2,g3⟩:=Qy hl hb (λy hy=>hx y (by simp[hy])) h1;have ht:=g2 rfl;obtain⟨k1,k2⟩:=TM hl hb (hx x (by simp)).1 (hx x (by simp)).2 azZ;refine⟨by simp[g1],λhf=> ?_,λ_=>⟨λm hm=> ?_,by rw[ht];exact k2⟩⟩
    ·rw[ht];exact Classical.byContradiction λbw=>c ⟨hf,bw⟩
    ·rcases List.mem_cons.1 hm with e|hm
     ·rw[e,ht];exact k1
     ·by_cases bw:xs=[]
      ·subst bw;have:v'=[]:=List.eq_nil_of_length_eq_zero g1;rw[this]at hm;simp at hm
      ·exact(g3 bw).1 m hm
theorem KZ{l:List En}{t:Ty}(h:bq l t=true)(k:Nat)(hk:k<=8):bq l ⟨t.k,t.e,k⟩=true:=by unfold bq at h|-;simp only[Bool.and_eq_true]at h|-;exact⟨⟨⟨h.1.1.1,decide_eq_true (by omega)⟩,decide_eq_true (by omega)⟩,h.2⟩
theorem wg{l:List En}(hl:l.length<=1000)(hb:∀e∈l,e.ct.length<=1000){e:Ex}(w5:w8 e)(hp:∀x∈ax e,ew x=true){v}{t}(h:cC l e=some (v,t)):RI l t v:=by
 have hn:∀x∈ax e,kG x=true:=λx hx=>by have:=hp x hx;simp only[ew,Bool.and_eq_true]at this;exact this.1.1.1.1.1.2
 unfold cC at h;split at h
 ·cases h
 split at h
 ·rw[Option.map_eq_some_iff]at h;obtain⟨⟨n,t'⟩,h1,h2⟩:=h;simp only[Prod.mk.injEq]at h2;obtain⟨rfl,rfl⟩:=h2;exact(TM hl hb (w5 e (iJ e)) (hn e (iJ e)) h1).1
 ·rename_i c14;rw[Option.map_eq_some_iff]at h;obtain⟨⟨v',t'⟩,h1,h2⟩:=h;simp only[Prod.mk.injEq]at h2;obtain⟨rfl,rfl⟩:=h2;have hs:∀x∈e.ar,gD x.n/\kG x=true:=λx hx=>⟨w5 x (oC hx x (iJ x)),hn x (oC hx x (iJ x))⟩;obtain⟨g1,_,g3⟩:=Qy hl hb hs h1;have h8:1<=e.ar.length/\e.ar.length<=8:=by
   have:=hp e (iJ e);have az0:e.kind=14:=by simpa using c14
   simp only[ew,Bool.and_eq_true,qZ,az0,decide_eq_true_eq]at this;have h1:=this.1.1.2;have h2:=this.1.2;simp at h1 h2;omega
  have bw:e.ar≠[]:=λq=>by rw[q]at h8;simp at h8
  obtain⟨k1,k2⟩:=g3 bw;have hv:∃n,n∈v':=by
   cases v' with
   |nil=>simp at g1;omega
   |cons a r=>exact⟨a,by simp⟩
  obtain⟨n0,zK⟩:=hv;have hr:=(k1 n0 zK).parts.1;refine RI.mk' (KZ hr _ (by omega)) ?_ λn hn=> ?_
  ·have:bq l ⟨t'.k,t'.e,v'.length⟩=true:=KZ hr _ (by omega);rw[TN this (by simp only;omega)]
  ·have:=(k1 n hn);exact⟨this.parts.2.2.1 n (by simp),this.2 n (by simp)⟩
theorem X4{α}{l:List α}(h:l.length=2):∃a b,l=[a,b]:=by
 match l,h with
 |[a,b],_=>exact⟨a,b,rfl⟩
theorem aj8{α}{l:List α}(h:l.length=3):∃a b c,l=[a,b,c]:=by
 match l,h with
 |[a,b,c],_=>exact⟨a,b,c,rfl⟩
def K1(p:cY)(i:Nat)(e:Ex):Prop:=∀x∈ax e,ew x=true/\oy p i x=true/\gD x.n
theorem K1.sub{p}{i}{e x:Ex}(h:K1 p i e)(hx:x∈e.ar):K1 p i x:=λy hy=>h y (oC hx y hy)
theorem K1.self{p:cY}{i:Nat}{e:Ex}(h:K1 p i e):ew e=true/\oy p i e=true/\gD e.n:=h e (iJ e)
theorem ni{e:Ex}(h:ew e=true):1<=e.kind/\e.kind<=17/\(qZ e).1<=e.ar.length/\(e.ar.length:Int)<=(qZ e).2:=by simp only[ew,Bool.and_eq_true,decide_eq_true_eq]at h;exact⟨h.1.1.1.1.1.1.1,h.1.1.1.1.1.1.2,h.1.1.2,h.1.2⟩
theorem dF{e:Ex}(h:ew e=true):(e.kind=5\/e.kind=10\/e.kind=11->∃a,e.ar=[a])/\(e.kind=6\/e.kind=8\/e.kind=9\/e.kind=15->∃a b,e.ar=[a,b])/\(e.kind=7\/e.kind=16->∃a b c,e.ar=[a,b,c])/\
 (e.kind=12->e.ar.length=e.arms.length/\1<=e.arms.length/\e.arms.length<=6)/\(e.kind=13->e.n<=e.ar.length/\e.ar.length<=6+e.n/\(e.n=0\/e.n=1))/\(e.kind=14->1<=e.ar.length/\e.ar.length<=8)/\e.ar.length<=8:=by
 obtain⟨_,_,h1,h2⟩:=ni h;have hp:=h;simp only[ew,Bool.and_eq_true,decide_eq_true_eq]at hp;have asT:=hp.1.1.1.1.1.2;have agm:=hp.1.1.1.2;have n13:e.kind=13->e.n=0\/e.n=1:=λk=>by have:=SR asT k;omega
 have a12:e.kind=12->1<=e.arms.length/\e.arms.length<=6:=λk=>by simp only[Hj,k]at agm;simp at agm;omega
 unfold qZ at h1 h2;refine⟨λk=> ?_,λk=> ?_,λk=> ?_,λk=> ?_,λk=> ?_,λk=> ?_,?_⟩
 ·rw[if_pos k]at h1 h2;exact List.length_eq_one_iff.1 (by simp at h1 h2;omega)
 ·rw[if_neg (by omega),if_pos k]at h1 h2;exact X4 (by simp at h1 h2;omega)
 ·rw[if_neg (by omega),if_neg (by omega),if_pos k]at h1 h2;exact aj8 (by simp at h1 h2;omega)
 ·rw[if_neg (by omega),if_neg (by omega),if_neg (by omega),if_pos k]at h1 h2;have:=a12 k;simp at h1 h2;omega
 ·rw[if_neg (by omega),if_neg (by omega),if_neg (by omega),if_neg (by omega),if_pos k]at h1 h2;have:=n13 k;simp at h1 h2;omega
 ·rw[if_neg (by omega),if_neg (by omega),if_neg (by omega),if_neg (by omega),if_neg (by omega),if_pos k]at h1 h2;simp at h1 h2;omega
 ·have:=n13;have:=a12;split at h2
  ·simp at h2;omega
  ·split at h2
   ·simp at h2;omega
   ·split at h2
    ·simp at h2;omega
    ·split at h2
     ·rename_i k;have:=a12 k;simp at h2;omega
     ·split at h2
      ·rename_i k;have:=n13 k;simp at h2;omega
      ·split at h2
       ·simp at h2;omega
       ·simp only at h2;omega
theorem iH(p)(i):∀(e:Ex) (on:List dY),c0 p i e on=
 if e.kind=1\/e.kind=2\/e.kind=4 then true
 else if e.kind=3 then da p i e.name==some on
 else if e.kind=8 then e.ar.length==2&&(ng p i e.ar [on,on]).getD 1 false
 else if e.kind=11 then(match da p i e.name with
  |none=>false
  |some row=>e.arms.length==1&&e.ar.length==1&&my p.en (e.arms.getD 0 [])&&on==row++[(e.name,(fA p.en (e.arms.getD 0 [])).2.1)]&&(ng p i e.ar [row]).getD 0 false)
 else if e.kind=12 then da p i e.name==some on&&e.arms.length==e.ar.length&&e.arms.all (my p.en)&&(ng p i e.ar (e.arms.map λc=>on++[(e.name,(fA p.en c).2.1)])).all id
 else if e.kind=17 then false
 else(ng p i e.ar (e.ar.map λ_=>on)).all id
 | .mk ..,on=>by rw[c0];rfl
theorem Qz{p}{i}:∀{l:List Ex} {w6:List (List dY)} {j:Nat} {x:Ex} {on:List dY},l[j]? =some x->w6[j]? =some on->(ng p i l w6)[j]? =some (c0 p i x on)
 |[],_,j,x,on,h,_=>by simp at h
 |y::l,[],j,x,on,_,h=>by simp at h
 |y::l,o::w6,0,x,on,h,h'=>by simp at h h';subst h;subst h';rw[ng];rfl
 |y::l,o::w6,j+1,x,on,h,h'=>by rw[ng];simpa using Qz (l:=l) (w6:=w6) (j:=j) (by simpa using h) (by simpa using h')
theorem amj{l:List Bool}(h:l.all id=true){j:Nat}{b:Bool}(hb:l[j]? =some b):b=true:=by have:=List.all_eq_true.1 h b (List.mem_of_getElem? hb);exact this
theorem afl{α}:∀{l:List (Option α)} {t:List α},JV l=some t->t.length=l.length/\∀j:Nat,l[j]? =(t[j]?).map some
 |[],t,h=>by simp only[JV,Option.some.injEq]at h;subst h;exact⟨rfl,λj=>by simp⟩
 |none::l,t,h=>by simp[JV]at h
 |some x::l,t,h=>by
  simp only[JV,Option.map_eq_some_iff]at h;obtain⟨t',h1,rfl⟩:=h;obtain⟨g1,g2⟩:=afl h1;refine⟨by simp[g1],λj=> ?_⟩;cases j with
  |zero=>rfl
  |succ j=>simpa using g2 j
theorem yF{p}{i}{e:Ex}{ts:List Ty}(h:iu p i e=some ts):ts.length=e.ar.length/\∀(j:Nat) (x:Ex),e.ar[j]? =some x->∃t,oV p i x=some t/\ts[j]? =some t:=by
 obtain⟨h1,h2⟩:=afl h;refine⟨by simpa using h1,λj x hx=> ?_⟩;have:=h2 j;rw[List.getElem?_map,hx]at this;cases ht:ts[j]? with
 |none=>rw[ht]at this;simp at this
 |some t=>
  rw[ht]at this;exact⟨t,by simpa using this,rfl⟩
structure Ctx(p:cY)(i:Nat)(n:kZ)(l:jw)(f:Fl):Prop where
 node:p.nodes[i]? =some n
 nod:MW p i n
 all:∀(k:Nat) (g:kZ),p.nodes[k]? =some g->MW p k g
 en:l.enums=p.en
 aww:ami p.en
 enL:p.en.length<=1000
 enC:∀e∈p.en,e.ct.length<=1000
 dec:∀d∈dA n,fp f d.name=some (varOf p i d)
 fl:∀(k:Nat) (g:kZ),p.nodes[k]? =some g->(ad l k).ins=g.ins.map (varOf p k)/\(ad l k).outs=g.outs.map (varOf p k)
theorem OI{n}:∀{k:Nat} {s:List UInt8} {acc l:List rN},MD n k s acc=some l->(∀d∈acc,d.on≠[])->(∀d∈l,d.on≠[])/\l.length<=acc.length+k
 |0,_,_,_,h,_=>by simp[MD]at h
 |k+1,s,acc,l,h,ha=>by
  rw[MD]at h;split at h
  ·cases h
  ·rename_i d _;split at h
   ·simp at h;subst h;exact⟨ha,by omega⟩
   ·rename_i c;obtain⟨g1,g2⟩:=OI h (λx hx=>by
     rcases List.mem_cons.1 hx with e|hx
     ·rw[e];exact c
     ·exact ha x hx)
    exact⟨g1,by simp at g2;omega⟩
theorem aai{l}:∀{ds:List rN} {on:List dY},mS l ds=some on->(∀d∈ds,d.on≠[])->(∀c∈on,c.1≠[])/\on.length=ds.length
 |[],on,h,_=>by simp only[mS,Option.some.injEq]at h;subst h;exact⟨λc hc=>by simp at hc,rfl⟩
 |d::ds,on,h,hd=>by
  rw[mS]at h;split at h
  ·rw[Option.map_eq_some_iff]at h;obtain⟨on',h1,rfl⟩:=h;obtain⟨g1,g2⟩:=aai h1 λx hx=>hd x (by simp[hx]);refine⟨λc hc=> ?_,by simp[g2]⟩;rcases List.mem_cons.1 hc with e|hc
   ·rw[e];exact hd d (by simp)
   ·exact g1 c hc
  ·cases h
theorem JO{p}{i}{s}{on:List dY}(h:da p i s=some on):(∀c∈on,c.1≠[])/\on.length<=13:=by
 unfold da at h;split at h
 ·split at h
  ·cases h
  ·rename_i ds hc;obtain⟨g1,g2⟩:=OI hc (λd hd=>by simp at hd);obtain⟨k1,k2⟩:=aai h g1;exact⟨k1,by simp at g2;omega⟩
 ·cases h
theorem afm{n}:∀{k:Nat} {s:List UInt8} {acc l:List rN},MD n k s acc=some l->(∀d∈acc,d∈dA n)->∀d∈l,d∈dA n
 |0,_,_,_,h,_=>by simp[MD]at h
 |k+1,s,acc,l,h,ha=>by
  rw[MD]at h;split at h
  ·cases h
  ·rename_i d hd;split at h
   ·simp at h;subst h;exact ha
   ·refine afm h λx hx=> ?_;rcases List.mem_cons.1 hx with e|hx
    ·rw[e];exact(oD hd).1
    ·exact ha x hx
theorem TP{l}:∀{ds:List rN} {on:List dY},mS l ds=some on->∀c∈on,∃d∈ds,c.1=d.on
 |[],on,h,c,hc=>by simp only[mS,Option.some.injEq]at h;subst h;simp at hc
 |d::ds,on,h,c,hc=>by
  rw[mS]at h;split at h
  ·rw[Option.map_eq_some_iff]at h;obtain⟨on',h1,rfl⟩:=h;rcases List.mem_cons.1 hc with e|hc
   ·exact⟨d,by simp,by rw[e]⟩
   ·obtain⟨y,hy,e⟩:=TP h1 c hc;exact⟨y,by simp[hy],e⟩
  ·cases h
theorem apn{p:cY}{i}{n}(hn:p.nodes[i]? =some n)(hN:MW p i n){s}{on}(h:da p i s=some on):∀c∈on,c.1≠[]/\Vo (nodeAt p i) c.1=true:=by
 intro c hc;have h1:=(JO h).1 c hc;refine⟨h1,?_⟩;have hna:=fa hn;unfold da at h;split at h
 ·split at h
  ·cases h
  ·rename_i ds hcl;rw[hna]at hcl;obtain⟨d,hd,e⟩:=TP h c hc;have hm:=afm hcl (λd hd=>by simp at hd) d hd;rw[hna,e];exact(hN.onV d hm (e▸h1)).1
 ·cases h
theorem uM{α}{l:List α}{k}{d:α}(h:k<l.length):l.getD k d∈l:=by rw[List.getD_eq_getElem?_getD,List.getElem?_eq_getElem h];exact List.getElem_mem h
theorem Cg{p:cY}{i}{n}(hn:MW p i n){d:rN}(hd:d∈dA n):bq p.en d.ty=true/\pz d.name=true:=by have:=hn.decl d hd;simp only[wH,Bool.and_eq_true]at this;exact⟨this.1.2,this.1.1⟩
theorem AU{p}{e:Ex}{ts:List Ty}{k}(h:ra p e ts=some k):iR p e.name=k/\(ts.length:Int)-e.n=(nodeAt p k).ins.length/\(e.n=1->jF (ts.getD (ts.length-e.n.toNat) default)=true)/\OX (nodeAt p k).ins ts=true:=by
 unfold ra at h;split at h
 ·cases h
 rename_i c;split at h
 ·cases h
 rename_i c2;split at h
 ·rename_i c3;injection h with h;subst h;simp only[not_or,not_and,Bool.not_eq_false,ne_eq,Decidable.not_not]at c2;exact⟨by omega,c2.1,c2.2,c3⟩
 ·cases h
theorem xD{p:cY}{s:List UInt8}{k:Nat}(h:iR p s=k):∃g,p.nodes[k]? =some g:=by
 unfold iR at h;split at h
 ·rename_i j hj;have:j=k:=by omega
  subst this;obtain⟨h1,_⟩:=List.findIdx?_eq_some_iff_findIdx_eq.1 hj;exact⟨p.nodes[j],List.getElem?_eq_getElem h1⟩
 ·omega
theorem aaj{p:cY}{i:Nat}{n:kZ}(hn:p.nodes[i]? =some n)(hN:∀(k:Nat) (g:kZ),p.nodes[k]? =some g->MW p k g)(hl:p.en.length<=1000)(hb:∀e∈p.en,e.ct.length<=1000)(e:Ex):
 K1 p i e->∀t,oV p i e=some t->bq p.en t=true:=by
 induction e using Ex.ind with
 |h e ih=>
  intro he t ht;have hna:=fa hn;obtain⟨q1,q2,q3⟩:=he.self;obtain⟨s1,s2,s3,s4,s5,s6,s7⟩:=dF q1;rw[yG]at ht;split at ht
  ·rw[Option.map_eq_some_iff]at ht;obtain⟨⟨v,t'⟩,h1,rfl⟩:=ht;exact(wg hl hb (λx hx=>(he x hx).2.2) (λx hx=>(he x hx).1) h1).parts.1
  rename_i c1;split at ht
  ·rw[Option.map_eq_some_iff]at ht;obtain⟨d,h1,rfl⟩:=ht;rw[hna]at h1;exact(Cg (hN i n hn) (oD h1).1).1
  rename_i c3;split at ht
  ·rename_i c8;split at ht
   ·rename_i c u h1 h2;split at ht
    ·rename_i h3;injection ht with ht;subst ht;obtain⟨a,b,hs⟩:=s2 (.inr (.inl c8));rw[hs]at h1;exact h3▸(wg hl hb (λx hx=>(he.sub (by rw[hs];simp) x hx).2.2) (λx hx=>(he.sub (x:=a) (by rw[hs];simp) x hx).1) (e:=a) (v:=c.1) (t:=c.2) (by simpa using h1)).parts.1
    ·cases ht
   ·cases ht
  rename_i c8;split at ht
  ·cases ht
  rename_i c17;split at ht
  ·cases ht
  rename_i ts uS;obtain⟨l1,l2⟩:=yF uS;have sub:∀j,j<e.ar.length->bq p.en (ts.getD j default)=true:=λj hj=>by obtain⟨t',h1,h2⟩:=l2 j _ (List.getElem?_eq_getElem hj);rw[List.getD_eq_getElem?_getD,h2];exact ih _ (List.getElem_mem hj) (he.sub (List.getElem_mem hj)) t' h1
  have k17:=ni q1;split at ht
  ·rename_i c9;unfold AW at ht;split at ht
   ·rename_i k;split at ht
    ·injection ht with ht;subst ht;obtain⟨a,b,hs⟩:=s2 (.inr (.inr (.inl k)));exact sub 0 (by rw[hs];simp)
    ·cases ht
   split at ht
   ·rename_i k;injection ht with ht;subst ht;obtain⟨a,hs⟩:=s1 (.inr (.inl k));exact sub 0 (by rw[hs];simp)
   split at ht
   ·rename_i k;split at ht
    ·split at ht
     ·injection ht with ht;subst ht;obtain⟨a,hs⟩:=s1 (.inr (.inr k));exact sub 0 (by rw[hs];simp)
     ·cases ht
    ·cases ht
   split at ht
   ·rename_i k;split at ht
    ·split at ht
     ·injection ht with ht;subst ht;have:=s4 k;exact sub 0 (by omega)
     ·cases ht
    ·cases ht
   split at ht
   ·rename_i k hk;split at ht
    ·rename_i h1;injection ht with ht;subst ht;obtain⟨g,hg⟩:=xD (AU hk).1;rw[fa hg]at h1|-;have hm:g.outs.getD 0 default∈g.outs:=uM (by omega);refine(Cg (hN k g hg) ?_).1;unfold dA;exact List.mem_append.2 (.inl (List.mem_append.2 (.inr hm)))
    ·cases ht
   ·cases ht
  ·rename_i c9;unfold rW at ht;split at ht
   ·rename_i k;split at ht
    ·injection ht with ht;subst ht;rename_i h1;unfold vz at h1|-;split at h1
     ·rename_i c;rw[if_pos c];exact QH _
     ·rename_i c;split at h1
      ·rename_i c';rw[if_neg c,if_pos c'];exact yf _
      ·cases h1
    ·cases ht
   split at ht
   ·rename_i k;split at ht
    ·injection ht with ht;subst ht;rename_i h1;obtain⟨a,b,hs⟩:=s2 (.inl k);generalize hq:dB e.op (ts.getD 0 default) (ts.getD 1 default)=w at h1|-;obtain⟨w1,w2⟩:=w;simp only at h1;subst h1;unfold dB at hq;split at hq
     ·split at hq
      ·injection hq with hq _;rw[<-hq];exact QH _
      ·cases hq
     ·split at hq
      ·split at hq
       ·injection hq with hq _;rw[<-hq];exact yf _
       ·cases hq
      ·split at hq
       ·split at hq
        ·injection hq with hq _;rw[<-hq];exact yf _
        ·cases hq
       ·split at hq
        ·split at hq
         ·injection hq with hq _;rw[<-hq];exact yf _
         ·cases hq
        ·cases hq
    ·cases ht
   split at ht
   ·rename_i k;split at ht
    ·injection ht with ht;subst ht;obtain⟨a,b,c,hs⟩:=s3 (.inl k);exact sub 1 (by rw[hs];simp)
    ·cases ht
   split at ht
   ·rename_i k;split at ht
    ·injection ht with ht;subst ht;have:=s6 k;exact KZ (sub 0 (by omega)) _ (by omega)
    ·cases ht
   split at ht
   ·rename_i k;split at ht
    ·injection ht with ht;subst ht;obtain⟨a,b,hs⟩:=s2 (.inr (.inr (.inr k)));exact TQ (sub 0 (by rw[hs];simp))
    ·cases ht
   ·split at ht
    ·injection ht with ht;subst ht;obtain⟨a,b,c,hs⟩:=s3 (.inr (by omega));exact sub 0 (by rw[hs];simp)
    ·cases ht
end Go.Proofs.YtcokmopocppmiaaGreat

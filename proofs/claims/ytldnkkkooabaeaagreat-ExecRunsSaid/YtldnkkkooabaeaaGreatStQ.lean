/- What programs that are checked are: facts for the theory of their plain equations. -/
import Derived.Test.YtldnkkkooabaeaaGreatStW
set_option linter.all false
set_option maxRecDepth 20000
namespace Go.Proofs.YtldnkkkooabaeaaGreat
open Go.Nk
theorem lE{α}{f}:∀{l:List α} {i:Nat},bk f i l=fk->∀(k:Nat) (x:α),l[k]? =some x->f (i+k) x=fk
 |[],_,_,k,x,h=>by simp at h
 |y::l,i,h,k,x,U=>by
  rw[bk]at h;by_cases c:f i y=fk
  .rw[gr c]at h;cases k with
   |zero=>simp at U;subst U;exact c
   |succ k=>
    have:=lE h k x (by simpa using U);rwa[show i+1+k=i+(k+1) by omega]at this
  .rw[ba c]at h;exact absurd h c
structure Chk(p:fc):Prop where
 pp:kL p=0
 s:∀(i:Nat) (n:kY),p.nodes[i]? =some n->qR p i n=fk
 t:∀(i:Nat) (n:kY),p.nodes[i]? =some n->sy p i n=fk
 c:∀(i:Nat) (n:kY),p.nodes[i]? =some n->sx p i n=fk
theorem _j{p}(h:wX p=true):Chk p:=by
 have h1:pq p=fk:=by simpa[wX]using h
 have h2:mi p=fk:=by grind[pq]
 have h3:ke p=fk:=by grind[mi]
 have h4:jv p=fk/\bk (sx p) 0 p.nodes=fk:=by grind[ke,absurd]
 have h5:g9 p=fk/\bk (sy p) 0 p.nodes=fk:=by grind[jv,absurd]
 have h6:kL p=0/\bk (qR p) 0 p.nodes=fk:=by grind[g9,fk,Ce,absurd]
 refine⟨h6.1,λi n hn=>?_,λi n hn=>?_,λi n hn=>?_⟩
 .have:=lE h6.2 i n hn;simp_all
 .have:=lE h5.2 i n hn;simp_all
 .have:=lE h4.2 i n hn;simp_all
structure Pz(p:fc)(i:Nat)(n:kY):Prop where
 decl:∀d∈dQ n,vG p.en d=true
 io:∀d∈n.ins++n.outs,d.on=[]
 eqs:∀x∈n.eqs,Ep x=true
 once:(dQ n).Pairwise λa b=>a.name≠b.name
 few:n.ins.length<=6/\n.outs.length<=6/\n.vars.length<=12/\n.eqs.length<=18
 onV:∀d∈dQ n,d.on≠[]->V4 n d.on=true/\nP p.en d.ct=true
 _k:∀(k:Nat) (x:xY),n.eqs[k]? =some x->pC n k [] x.names=0
 part:∀x∈n.eqs,∀y∈az x.e,p8 p i y=true
 Zy:∀d∈n.outs++n.vars,∃x∈n.eqs,d.name∈x.names
 onT:∀d∈dQ n,d.on≠[]->((fv n d.on).getD default).ty=(gH p.en d.ct).1
 ty:∀x∈n.eqs,Cu p i x=true
 row:∀d∈dQ n,(dU p i d.name).isSome=true
 cl:∀x∈n.eqs,LR p i x=true
theorem fU{p:fc}{i}{n}(h:p.nodes[i]? =some n):nodeAt p i=n:=by unfold nodeAt;simp_all
theorem alU{α}{g:α->B3}{l:List α}(h:rW (l.map g)=true):l.Pairwise λa b=>g a≠g b:=by simp_all[rW,ir,MH]
theorem nR{p:fc}(h:kL p=0):pF p.en=0/\0<p.nodes.length/\p.nodes.length<=6/\(∀n∈p.nodes,manyN n=false)/\(∀n∈p.nodes,ov p.en n=true)/\(∀n∈p.nodes,NZ n=true)/\rW (p.nodes.map (·.name))=true:=by unfold kL at h;split at h<;>grind
theorem _l{p:fc}(h:Chk p){i}{n}(hn:p.nodes[i]? =some n):Pz p i n:=by
 obtain⟨_,_,_,q4,q5,q6,_⟩:=nR h.pp;have hm:=ed hn;have k4:=q4 n hm;have k5:=q5 n hm;have k6:=q6 n hm;have I:=h.s i n hn;have ht:=h.t i n hn;have hc:=h.c i n hn;have Hc:=fU hn;simp only[ov,ab,BE,GO]at k5;simp only[manyN,J8,Of]at k4;have s1:∀d∈dQ n,Qx p n d=false:=by
  unfold qR at I;split at I
  .simp[fk]at I
  simp_all
 have s2:bk (w9 p i) 0 n.eqs=fk/\(n.outs++n.vars).any (λd=>gJ n d.name n.eqs.length==0)=false:=by grind[qR,fk,absurd]
 have s3:∀(k:Nat) (x:xY),n.eqs[k]? =some x->F5 p i k x=0:=λk x U=>by have:=lE s2.1 k x U;simp_all[GL,w9,fk,Ce,absurd]
 have t1:(dQ n).all (R5 p n)=true/\∀(k:Nat) (x:xY),n.eqs[k]? =some x->Cu p i x=true:=by grind[sy,fk,lE,Cu]
 have c1:(dQ n).all (λd=>(dU p i d.name).isSome)=true/\∀(k:Nat) (x:xY),n.eqs[k]? =some x->LR p i x=true:=by
  unfold sx at hc;split at hc
  .simp[fk]at hc
  next c=>refine⟨by grind,λk x U=>?_⟩;grind[lE,LR,fk]
 have ix:∀x∈n.eqs,∃k,n.eqs[k]? =some x:=λx U=>by obtain⟨k,hk⟩:=adm U;exact⟨k,hk⟩
 refine⟨k5.1.1.1.1,λd Z=>k5.1.1.1.2 d Z,k5.1.1.2,alU k6,by omega,λd Z bP=>?_,λk x U=>?_,λx U y hy=>?_,λd Z=>?_,λd Z bP=>?_,λx U=>?_,λd Z=>?_,λx U=>?_⟩
 .simp_all[Qx,Pd,J8,FU]
 .grind[F5,absurd]
 .grind[F5,absurd,BE]
 .have:=List.any_eq_false.1 s2.2 d Z;simp only[gJ,VB,GO]at this;have hl:0<((n.eqs.flatMap (·.names)).filter (·==d.name)).length:=by omega
  simp_all
 .have:=BE.1 t1.1 d Z;simp_all[R5,CJ,GO,ir]
 all_goals grind
theorem sC{n}{s}{d:tN}(h:fv n s=some d):d∈dQ n/\d.name=s:=by grind[fv,V3]
theorem aAl{n}(hu:(dQ n).Pairwise λa b=>a.name≠b.name){d:tN}(Z:d∈dQ n):fv n d.name=some d:=by
 unfold fv;have key:∀l:List tN,l.Pairwise (λa b=>a.name≠b.name)->d∈l->l.find? (λv=>v.name==d.name)=some d:=by intro l;induction l<;>grind[OW,Kb,NO]
 simp_all
theorem DN{n}{i}:∀{l pre:BS},pC n i pre l=0->(∀s∈l,V4 n s=true/\yb n s=false/\gJ n s i=0)/\l.Pairwise (·≠·)/\∀s∈l,s∉pre
 |[],_,_=>⟨λs I=>by simp at I,.nil,λs I=>by simp at I⟩
 |x::l,pre,h=>by
  rw[pC]at h;split at h
  .omega
  rename_i c1;split at h
  .omega
  rename_i c2;simp only[CJ,not_or,Fb,Of,List.any_eq_false,GO]at c2;obtain⟨k1,k2,k3⟩:=DN h;have hz:0<=gJ n x i:=by unfold gJ;omega
  refine⟨λs I=>?_,OW.2 ⟨λy hy e=>k3 y hy (by simp_all),k2⟩,λs I hm=>?_⟩;all_goals grind
structure eh(l:List En):Prop where
 ne:∀e∈l,0<e.ct.length
 high:∀e∈l,∀c∈e.ct,Fe c=true
 once:((l.map (·.ct)).flatten).Pairwise (·≠·)
theorem auu{l}(h:pF l=0):eh l:=by
 unfold pF at h;split at h
 .omega
 split at h
 .omega
 rename_i c2;split at h
 .omega
 rename_i c3;split at h
 .rename_i c4;simp only[Fb,List.any_eq_false,C6,CJ,not_or,GO,FU]at c2 c3;simp only[ab]at c4;refine⟨λe he=>?_,λe he c hc=>?_,?_⟩
  .grind
  .have:=c3 c (List.mem_flatten.2 ⟨e.ct,It.2 ⟨e,he,rfl⟩,hc⟩);omega
  .have:=c4.2;unfold rW kW at this;simp_all
 .omega
theorem adJ{nm}{i}{rest}:∀{ct:BS} {k:Nat},(∃j:Nat,∃c,ct[j]? =some c/\c=nm/\lV nm (ym i k ct++rest)=((i:Int),((k+j:Nat):Int),true))\/((∀c∈ct,c≠nm)/\lV nm (ym i k ct++rest)=lV nm rest)
 |[],k=> .inr ⟨λc hc=>by simp at hc,rfl⟩
 |c::ct,k=>by
  by_cases e:c=nm
  .exact .inl ⟨0,c,rfl,e,by simp[ym,lV,e]⟩
  .rcases adJ (nm:=nm) (i:=i) (rest:=rest) (ct:=ct) (k:=k+1)with⟨j,c',h1,h2,h3⟩|⟨h1,h2⟩
   .exact .inl ⟨j+1,c',by simp_all,h2,by
     simp only[ym,Cr,lV,ba e,h3];grind⟩
   simp_all[ym,Cr,lV,ba,NO]
theorem Zz{nm}:∀{l:List En} {k:Nat},(∃a j:Nat,∃e c,l[a]? =some e/\e.ct[j]? =some c/\c=nm/\lV nm (kN k l)=(((k+a:Nat):Int),(j:Int),true))\/((∀e∈l,∀c∈e.ct,c≠nm)/\lV nm (kN k l)=(0,0,false))
 |[],k=> .inr ⟨λe he=>by simp at he,rfl⟩
 |e::l,k=>by
  rw[kN];rcases adJ (nm:=nm) (i:=k) (rest:=kN (k+1) l) (ct:=e.ct) (k:=0)with⟨j,c,h1,h2,h3⟩|⟨h1,h2⟩
  .exact .inl ⟨0,j,e,c,rfl,h1,h2,by rw[h3];simp⟩
  .rw[h2];rcases Zz (nm:=nm) (l:=l) (k:=k+1)with⟨a,j,e',c,g1,g2,g3,g4⟩|⟨g1,g2⟩
   .exact .inl ⟨a+1,j,e',c,by simp_all,g2,g3,by grind⟩
   grind
theorem auv{l:List En}(h:eh l){a j:Nat}{e:En}{c:B3}(h1:l[a]? =some e)(h2:e.ct[j]? =some c):lV c (kN 0 l)=((a:Int),(j:Int),true):=by
 rcases Zz (nm:=c) (l:=l) (k:=0)with⟨a',j',e',c',g1,g2,g3,g4⟩|⟨g1,_⟩
 .rw[g4];have key:∀(l:List En),((l.map (·.ct)).flatten).Pairwise (·≠·)->∀(a a':Nat) (e e':En) (j j':Nat),l[a]? =some e->l[a']? =some e'->e.ct[j]? =some c->e'.ct[j']? =some c->a=a'/\j=j':=by
   intro l;induction l with
   |nil=>simp_all
   |cons x l ih=>
    intro B a a' e e' j j' q1 q2 q3 q4;rw[p0,List.flatten_cons,Cz]at B;have ma:∀(b:Nat) (y:En),l[b]? =some y->∀z∈y.ct,z∈(l.map (·.ct)).flatten:=λb y hb z hz=>List.mem_flatten.2 ⟨y.ct,It.2 ⟨y,ed hb,rfl⟩,hz⟩;cases a with
    |zero=>
     simp at q1;cases a' with
     |zero=>
      simp at q2;subst q1;subst q2;refine⟨rfl,?_⟩;grind[pc,List.getElem_inj]
     |succ b=>
      simp at q2;subst q1;exact absurd rfl (B.2.2 c (ed q3) c (ma b e' q2 c (ed q4)))
    |succ b=>
     simp at q1;cases a' with
     |zero=>
      simp at q2;subst q2;exact absurd rfl (B.2.2 c (ed q4) c (ma b e q1 c (ed q3)))
     |succ b'=>
      simp at q2;grind
  obtain⟨k1,k2⟩:=key l h.once a a' e e' j j' h1 g1 h2 (g3▸g2);grind
 grind
theorem auw{c}(h:Fe c=true):c≠[116,114,117,101]/\c≠[102,97,108,115,101]:=by constructor<;>(intro e;subst e;revert h;decide)
theorem alV{p:fc}(h:eh p.en){a j:Nat}{e:En}{c:B3}(h1:p.en[a]? =some e)(h2:e.ct[j]? =some c):vt p c=j:=by have hc:=auw (h.high e (ed h1) c (ed h2));have Y:=auv h h1 h2;simp_all[vt,gH,ba]
theorem alW{l:List En}(hl:l.length<=1000){s}(h:nP l s=true)(hb:∀e∈l,e.ct.length<=1000):RI l (gH l s).1 [(gH l s).2.1]/\(gH l s).1.n=0:=by
 unfold nP at h;unfold gH at h|-;split
 .exact⟨RI.bool (.inr rfl),rfl⟩
 .split
  .exact⟨RI.bool (.inl rfl),rfl⟩
  .rename_i c1 c2;rw[ba c1,ba c2]at h;rcases Zz (nm:=s) (l:=l) (k:=0)with⟨a,j,e,c,g1,g2,g3,g4⟩|⟨_,g2⟩
   .rw[g4];simp only[Bp,GL];obtain⟨la,_⟩:=pc.1 g1;obtain⟨aKC,_⟩:=pc.1 g2;have:=hb e (ed g1);refine⟨RI.single (by simp[bg];omega) rfl ?_ (by unfold ij;omega),BB⟩;simp_all[default,BY,yf,Int.reduceEq,Bv,GC]
   simp_all
theorem auy{l}(h:eh l){t}(ht:bg l t=true):RI l t (zeroV t):=by
 have hb:=yF t;refine RI.mk' ht (by unfold zeroV;grind) λn hn=>?_;unfold zeroV at hn;obtain⟨_,rfl⟩:=List.mem_replicate.1 hn;refine⟨?_,by unfold ij;omega⟩;unfold yf;split
 .rfl
 .rename_i c;rcases YT ht with k|k|k
  .simp[k]
  .omega
  .simp only[bg,k,Bp,ab,ir]at ht;have hm:(l.getD t.e.toNat default)∈l:=by simp_all
   have:=h.ne _ hm;simp_all
def yO(e:Ex):Prop:=∀x∈az e,ij x.n
theorem jz(e):e∈az e:=by rw[jj];simp
theorem qa{e x:Ex}(h:x∈e.ar):∀y∈az x,y∈az e:=by
 intro y hy;rw[jj];refine XN _ ?_;have key:∀l:List Ex,x∈l->y∈bQ l:=by intro l;induction l<;>grind[bQ,NO,pt]
 exact key _ h
theorem aAp{l:List En}(hl:l.length<=1000)(hb:∀e∈l,e.ct.length<=1000){e:Ex}(hn:ij e.n)(B:kO e=true){n}{t:Ty}(h:Tc l e=some (n,t)):RI l t [n]/\t.n=0:=by
 unfold Tc at h;split at h
 .simp at h;obtain⟨rfl,rfl⟩:=h;exact⟨RI.int hn,rfl⟩
 .split at h
  next c=>simp at h;obtain⟨rfl,rfl⟩:=h;refine⟨RI.bool ?_,rfl⟩;simp_all[kO]
  .split at h
   .simp at h;obtain⟨rfl,rfl⟩:=h;exact⟨RI.int (Nd _),rfl⟩
   .split at h
    next c=>simp at h;obtain⟨rfl,rfl⟩:=h;exact alW hl c hb
    .cases h
theorem aAq{l:List En}(hl:l.length<=1000)(hb:∀e∈l,e.ct.length<=1000):∀{xs:List Ex} {first:Bool} {t0:Ty} {v:Ba} {t:Ty},(∀x∈xs,ij x.n/\kO x=true)->rS l first t0 xs=some (v,t)->
 v.length=xs.length/\(first=false->t=t0)/\(xs≠[]->(∀n∈v,RI l t [n])/\t.n=0)
 |[],first,t0,v,t,_,h=>by simp only[rS,GB,Ce]at h;simp_all
 |x::xs,first,t0,v,t,U,h=>by
  rw[rS]at h;split at h
  .cases h
  .rename_i n u aF1;split at h
   .cases h
   .rename_i c;rw[Xs]at h;obtain⟨⟨v',t'⟩,h1,h2⟩:=h;simp only[Ce]at h2;obtain⟨rfl,rfl⟩:=h2;obtain⟨g1,g2,g3⟩:=aAq hl hb (λy hy=>U y (by simp[hy])) h1;have ht:=g2 rfl;obtain⟨k1,k2⟩:=aAp hl hb (U x (by simp)).1 (U x (by simp)).2 aF1;refine⟨by simp[g1],λhf=>?_,λ_=>⟨λm hm=>?_,by simp_all⟩⟩
    .simp_all
    .rcases NO.1 hm with e|hm
     .simp_all
     .by_cases bP:xs=[]<;>simp_all
theorem Nf{l:List En}{t:Ty}(h:bg l t=true)(k:Nat)(hk:k<=8):bg l ⟨t.k,t.e,k⟩=true:=by unfold bg at h|-;grind
theorem xK{l:List En}(hl:l.length<=1000)(hb:∀e∈l,e.ct.length<=1000){e:Ex}(u6:yO e)(B:∀x∈az e,fi x=true){v}{t}(h:dG l e=some (v,t)):RI l t v:=by
 have hn:∀x∈az e,kO x=true:=λx U=>by simp_all[fi,ab]
 unfold dG at h;split at h
 .cases h
 split at h
 .rw[Xs]at h;obtain⟨⟨n,t'⟩,h1,h2⟩:=h;simp only[Ce]at h2;obtain⟨rfl,rfl⟩:=h2;exact(aAp hl hb (u6 e (jz e)) (hn e (jz e)) h1).1
 .rename_i F7;rw[Xs]at h;obtain⟨⟨v',t'⟩,h1,h2⟩:=h;simp only[Ce]at h2;obtain⟨rfl,rfl⟩:=h2;have I:∀x∈e.ar,ij x.n/\kO x=true:=λx U=>⟨u6 x (qa U x (jz x)),hn x (qa U x (jz x))⟩;obtain⟨g1,_,g3⟩:=aAq hl hb I h1;have h8:1<=e.ar.length/\e.ar.length<=8:=by
   have:=B e (jz e);have aF2:e.kind=14:=by omega
   simp only[fi,ab,qN,aF2,ir]at this;grind
  have bP:e.ar≠[]:=λq=>by simp_all
  obtain⟨k1,k2⟩:=g3 bP;have hv:∃n,n∈v':=by
   cases v' with
   |nil=>grind
   |cons a r=>simp_all
  obtain⟨n0,wJ⟩:=hv;have E:=(k1 n0 wJ).parts.1;refine RI.mk' (Nf E _ (by omega)) ?_ λn hn=>?_
  .have:bg l ⟨t'.k,t'.e,v'.length⟩=true:=Nf E _ (by omega);rw[aAa this (by grind)]
  .have:=(k1 n hn);exact⟨this.parts.2.2.1 n (by simp),this.2 n (by simp)⟩
theorem R7{α}{l:List α}(h:l.length=2):∃a b,l=[a,b]:=by
 match l,h with
 |[a,b],_=>simp_all
theorem eo{α}{l:List α}(h:l.length=3):∃a b c,l=[a,b,c]:=by
 match l,h with
 |[a,b,c],_=>simp_all
def Ng(p:fc)(i:Nat)(e:Ex):Prop:=∀x∈az e,fi x=true/\p8 p i x=true/\ij x.n
theorem Ng.sub{p}{i}{e x:Ex}(h:Ng p i e)(U:x∈e.ar):Ng p i x:=λy hy=>h y (qa U y hy)
theorem Ng.self{p:fc}{i:Nat}{e:Ex}(h:Ng p i e):fi e=true/\p8 p i e=true/\ij e.n:=h e (jz e)
theorem oQ{e:Ex}(h:fi e=true):1<=e.kind/\e.kind<=17/\(qN e).1<=e.ar.length/\(e.ar.length:Int)<=(qN e).2:=by simp_all[fi,ab,ir]
theorem dW{e:Ex}(h:fi e=true):(e.kind=5\/e.kind=10\/e.kind=11->∃a,e.ar=[a])/\(e.kind=6\/e.kind=8\/e.kind=9\/e.kind=15->∃a b,e.ar=[a,b])/\(e.kind=7\/e.kind=16->∃a b c,e.ar=[a,b,c])/\
 (e.kind=12->e.ar.length=e.arms.length/\1<=e.arms.length/\e.arms.length<=6)/\(e.kind=13->e.n<=e.ar.length/\e.ar.length<=6+e.n/\(e.n=0\/e.n=1))/\(e.kind=14->1<=e.ar.length/\e.ar.length<=8)/\e.ar.length<=8:=by
 obtain⟨_,_,h1,h2⟩:=oQ h;have B:=h;simp only[fi,ab,ir]at B;have Y_:=B.1.1.1.1.1.2;have vL:=B.1.1.1.2;have n13:e.kind=13->e.n=0\/e.n=1:=λk=>by have:=ayU Y_ k;omega
 have a12:e.kind=12->1<=e.arms.length/\e.arms.length<=6:=λk=>by simp_all[E8]
 unfold qN at h1 h2;refine⟨λk=>?_,λk=>?_,λk=>?_,λk=>?_,λk=>?_,λk=>?_,?_⟩
 .rw[gr k]at h1 h2;grind[MF]
 .rw[ba (by omega),gr k]at h1 h2;exact R7 (by omega)
 .rw[ba (by omega),ba (by omega),gr k]at h1 h2;exact eo (by omega)
 all_goals grind
theorem jy(p)(i):∀(e:Ex) (on:List gT),ep p i e on=
 if e.kind=1\/e.kind=2\/e.kind=4 then true
 else if e.kind=3 then dU p i e.name==some on
 else if e.kind=8 then e.ar.length==2&&(oO p i e.ar [on,on]).getD 1 false
 else if e.kind=11 then(match dU p i e.name with
  |none=>false
  |some row=>e.arms.length==1&&e.ar.length==1&&nP p.en (e.arms.getD 0 [])&&on==row++[(e.name,(gH p.en (e.arms.getD 0 [])).2.1)]&&(oO p i e.ar [row]).getD 0 false)
 else if e.kind=12 then dU p i e.name==some on&&e.arms.length==e.ar.length&&e.arms.all (nP p.en)&&(oO p i e.ar (e.arms.map λc=>on++[(e.name,(gH p.en c).2.1)])).all id
 else if e.kind=17 then false
 else(oO p i e.ar (e.ar.map λ_=>on)).all id
 | .mk ..,on=>by rw[ep];rfl
theorem Tx{p}{i}:∀{l:List Ex} {zS:List (List gT)} {j:Nat} {x:Ex} {on:List gT},l[j]? =some x->zS[j]? =some on->(oO p i l zS)[j]? =some (ep p i x on)
 |[],_,j,x,on,h,_=>by simp at h
 |y::l,[],j,x,on,_,h=>by simp at h
 |y::l,o::zS,0,x,on,h,h'=>by simp_all[oO]
 |y::l,o::zS,j+1,x,on,h,h'=>by simp_all[oO,Tx]
theorem aq1{l:List Bool}(h:l.all id=true){j:Nat}{b:Bool}(hb:l[j]? =some b):b=true:=by have:=BE.1 h b (ed hb);exact this
theorem ai3{α}:∀{l:List (Option α)} {t:List α},Mb l=some t->t.length=l.length/\∀j:Nat,l[j]? =(t[j]?).map some
 |[],t,h=>by simp only[Mb,GB]at h;subst h;exact⟨rfl,λj=>by simp⟩
 |none::l,t,h=>by simp[Mb]at h
 |some x::l,t,h=>by
  simp only[Mb,Xs]at h;obtain⟨t',h1,rfl⟩:=h;obtain⟨g1,g2⟩:=ai3 h1;refine⟨by simp[g1],λj=>?_⟩;cases j with
  |zero=>rfl
  |succ j=>simpa using g2 j
theorem Am{p}{i}{e:Ex}{ts:List Ty}(h:jW p i e=some ts):ts.length=e.ar.length/\∀(j:Nat) (x:Ex),e.ar[j]? =some x->∃t,rF p i x=some t/\ts[j]? =some t:=by obtain⟨h1,h2⟩:=ai3 h;refine⟨by simp_all,λj x U=>?_⟩;have:=h2 j;grind
structure Ctx(p:fc)(i:Nat)(n:kY)(l:cT)(f:Fl):Prop where
 node:p.nodes[i]? =some n
 KF:Pz p i n
 all:∀(k:Nat) (g:kY),p.nodes[k]? =some g->Pz p k g
 en:l.enums=p.en
 aCh:eh p.en
 WV:p.en.length<=1000
 WW:∀e∈p.en,e.ct.length<=1000
 dec:∀d∈dQ n,fO f d.name=some (varOf p i d)
 fl:∀(k:Nat) (g:kY),p.nodes[k]? =some g->(ad l k).ins=g.ins.map (varOf p k)/\(ad l k).outs=g.outs.map (varOf p k)
theorem RO{n}:∀{k:Nat} {s:B3} {acc l:List tN},Pb n k s acc=some l->(∀d∈acc,d.on≠[])->(∀d∈l,d.on≠[])/\l.length<=acc.length+k
 |0,_,_,_,h,_=>by simp[Pb]at h
 |k+1,s,acc,l,h,ha=>by
  rw[Pb]at h;split at h
  .cases h
  .rename_i d _;split at h
   .simp_all
   .rename_i c;obtain⟨g1,g2⟩:=RO h (λx U=>by grind)
    grind
theorem adK{l}:∀{ds:List tN} {on:List gT},ou l ds=some on->(∀d∈ds,d.on≠[])->(∀c∈on,c.1≠[])/\on.length=ds.length
 |[],on,h,_=>by simp only[ou,GB]at h;subst h;exact⟨λc hc=>by simp at hc,rfl⟩
 |d::ds,on,h,Z=>by
  rw[ou]at h;split at h
  .rw[Xs]at h;obtain⟨Lo,h1,rfl⟩:=h;obtain⟨g1,g2⟩:=adK h1 λx U=>Z x (by simp[U]);refine⟨λc hc=>?_,by simp[g2]⟩;rcases NO.1 hc with e|hc
   .rw[e];exact Z d (by simp)
   .exact g1 c hc
  .cases h
theorem L5{p}{i}{s}{on:List gT}(h:dU p i s=some on):(∀c∈on,c.1≠[])/\on.length<=13:=by
 unfold dU at h;split at h
 .split at h
  .cases h
  next ds hc=>obtain⟨g1,g2⟩:=RO hc (λd Z=>by simp at Z);grind[adK]
 .cases h
theorem ai4{n}:∀{k:Nat} {s:B3} {acc l:List tN},Pb n k s acc=some l->(∀d∈acc,d∈dQ n)->∀d∈l,d∈dQ n
 |0,_,_,_,h,_=>by simp[Pb]at h
 |k+1,s,acc,l,h,ha=>by
  rw[Pb]at h;split at h
  .cases h
  .rename_i d Z;split at h
   .simp at h;subst h;exact ha
   .refine ai4 h λx U=>?_;rcases NO.1 U with e|U
    .rw[e];exact(sC Z).1
    .exact ha x U
theorem aAr{l}:∀{ds:List tN} {on:List gT},ou l ds=some on->∀c∈on,∃d∈ds,c.1=d.on
 |[],on,h,c,hc=>by simp only[ou,GB]at h;subst h;simp at hc
 |d::ds,on,h,c,hc=>by
  rw[ou]at h;split at h
  .rw[Xs]at h;obtain⟨Lo,h1,rfl⟩:=h;rcases NO.1 hc with e|hc
   .exact⟨d,by simp,by rw[e]⟩
   .obtain⟨y,hy,e⟩:=aAr h1 c hc;exact⟨y,by simp[hy],e⟩
  .cases h
theorem auz{p:fc}{i}{n}(hn:p.nodes[i]? =some n)(hN:Pz p i n){s}{on}(h:dU p i s=some on):∀c∈on,c.1≠[]/\V4 (nodeAt p i) c.1=true:=by
 intro c hc;have h1:=(L5 h).1 c hc;refine⟨h1,?_⟩;have Hc:=fU hn;unfold dU at h;split at h
 .split at h
  .cases h
  next ds zQ=>rw[Hc]at zQ;obtain⟨d,Z,e⟩:=aAr h c hc;have hm:=ai4 zQ (λd Z=>by simp at Z) d Z;rw[Hc,e];exact(hN.onV d hm (e▸h1)).1
 .cases h
theorem wu{α}{l:List α}{k}{d:α}(h:k<l.length):l.getD k d∈l:=by simp_all
theorem DP{p:fc}{i}{n}(hn:Pz p i n){d:tN}(Z:d∈dQ n):bg p.en d.ty=true/\qk d.name=true:=by have:=hn.decl d Z;simp_all[vG,ab]
theorem Cv{p}{e:Ex}{ts:List Ty}{k}(h:vC p e ts=some k):jx p e.name=k/\(ts.length:Int)-e.n=(nodeAt p k).ins.length/\(e.n=1->lF (ts.getD (ts.length-e.n.toNat) default)=true)/\R9 (nodeAt p k).ins ts=true:=by unfold vC at h;grind
theorem zd{p:fc}{s:B3}{k:Nat}(h:jx p s=k):∃g,p.nodes[k]? =some g:=by
 unfold jx at h;split at h
 .rename_i j hj;have:j=k:=by omega
  simp_all[List.findIdx?_eq_some_iff_findIdx_eq,tx]
 .omega
theorem adL{p:fc}{i:Nat}{n:kY}(hn:p.nodes[i]? =some n)(hN:∀(k:Nat) (g:kY),p.nodes[k]? =some g->Pz p k g)(hl:p.en.length<=1000)(hb:∀e∈p.en,e.ct.length<=1000)(e:Ex):
 Ng p i e->∀t,rF p i e=some t->bg p.en t=true:=by
 induction e using Ex.ind with
 |h e ih=>
  intro he t ht;have Hc:=fU hn;obtain⟨q1,q2,q3⟩:=he.self;obtain⟨s1,s2,s3,s4,s5,s6,s7⟩:=dW q1;rw[Ao]at ht;split at ht
  .rw[Xs]at ht;obtain⟨⟨v,t'⟩,h1,rfl⟩:=ht;exact(xK hl hb (λx U=>(he x U).2.2) (λx U=>(he x U).1) h1).parts.1
  rename_i c1;split at ht
  .rw[Xs]at ht;obtain⟨d,h1,rfl⟩:=ht;grind[DP,sC]
  rename_i c3;split at ht
  .rename_i c8;split at ht
   .rename_i c u h1 h2;split at ht
    next h3=>injection ht with ht;subst ht;obtain⟨a,b,I⟩:=s2 (.inr (.inl c8));rw[I]at h1;exact h3▸(xK hl hb (λx U=>(he.sub (by rw[I];simp) x U).2.2) (λx U=>(he.sub (x:=a) (by rw[I];simp) x U).1) (e:=a) (v:=c.1) (t:=c.2) (by grind)).parts.1
    .cases ht
   .cases ht
  rename_i c8;split at ht
  .cases ht
  rename_i Hd;split at ht
  .cases ht
  rename_i ts zb;obtain⟨l1,l2⟩:=Am zb;have sub:∀j,j<e.ar.length->bg p.en (ts.getD j default)=true:=λj hj=>by obtain⟨t',h1,h2⟩:=l2 j _ (tx hj);rw[BY,h2];exact ih _ (MJ hj) (he.sub (MJ hj)) t' h1
  have vM:=oQ q1;split at ht
  .rename_i c9;unfold Cx at ht;split at ht
   .grind
   split at ht
   .grind
   split at ht
   .grind
   split at ht
   .grind
   split at ht
   .rename_i k hk;split at ht
    next h1=>injection ht with ht;subst ht;obtain⟨g,hg⟩:=zd (Cv hk).1;grind[fU,default,wu,DP,dQ,pt]
    .cases ht
   .cases ht
  .rename_i c9;unfold tZ at ht;split at ht
   .rename_i k;split at ht
    .injection ht with ht;subst ht;rename_i h1;unfold xb at h1|-;split at h1
     next c=>rw[gr c];exact Tz _
     .rename_i c;split at h1
      next c'=>rw[ba c,gr c'];exact zL _
      .cases h1
    .cases ht
   split at ht
   .rename_i k;split at ht
    .injection ht with ht;subst ht;rename_i h1;obtain⟨a,b,I⟩:=s2 (.inl k);generalize hq:dV e.op (ts.getD 0 default) (ts.getD 1 default)=w at h1|-;obtain⟨w1,w2⟩:=w;simp only at h1;subst h1;unfold dV at hq;split at hq
     .split at hq
      .injection hq with hq _;rw[<-hq];exact Tz _
      .cases hq
     .split at hq
      .split at hq
       .injection hq with hq _;rw[<-hq];exact zL _
       .cases hq
      .split at hq
       .split at hq
        .injection hq with hq _;rw[<-hq];exact zL _
        .cases hq
       .split at hq
        .split at hq
         .injection hq with hq _;rw[<-hq];exact zL _
         .cases hq
        .cases hq
    .cases ht
   grind[Nf,az9]
end Go.Proofs.YtldnkkkooabaeaaGreat

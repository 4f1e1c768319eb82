/- Iterators: what a function hands to the rounds of a range over it. -/
import Derived.Test.YtcokmopocppmiaaGreatNkZ3
set_option maxHeartbeats 1000000
set_option linter.all false
namespace Go.Nk
open Go.RowKit
abbrev SI:=DS×Option Nat
def aky:DV->Bool
 | .agg cs=>cs.all DV.aY
 |d=>d.aY
def v9(l:Nat)(fr:List (Nat×DV)):aS->Option (List DV)
 | .qt g args=>match g.ev fr with
   | .Qm l'=>if l'=l then some (args.map (·.ev fr))else none
   |_=>none
 |_=>none
def Mb(l:Nat):DV->Bool
 | .Qm l'=>l'==l
 |d=>aky d
def uG(C:jL)(l:Nat)(xs:List (List DV))(dst:Option Nat)(op:aS)(s:SI)(Kn:SI->Prop):Prop:=
 match v9 l s.1.fr op with
 |some a=>∃n,s.2=some n/\xs[n]? =some a/\a.all aky=true/\Kn (s.1.put dst ⟨True,.bool true,s.1.hp⟩,some (n+1))/\Kn (s.1.put dst ⟨True,.bool false,s.1.hp⟩,none)
 |none=>match op with
  | .v7 f args=>∃n,s.2=some n/\(C.w f ((args.map (·.ev s.1.fr)).map DV.unY)).1/\(args.map (·.ev s.1.fr)).all (Mb l)=true/\
    (∀i y,(C.w f ((args.map (·.ev s.1.fr)).map DV.unY)).2[i]? =some y->xs[n+i]? =some y)/\
    Kn (s.1.put dst ⟨True,.bool true,s.1.hp⟩,some (n+(C.w f ((args.map (·.ev s.1.fr)).map DV.unY)).2.length))/\Kn (s.1.put dst ⟨True,.bool false,s.1.hp⟩,none)
  |_=>(aC C op s.1).pre/\Kn (s.1.put dst (aC C op s.1),s.2)
def FU(C:jL)(l:Nat)(xs:List (List DV))(o:ae)(s:SI)(Kn:SI->Prop):Prop:=
 match o.guard with
 |none=>uG C l xs o.dst o.op s Kn
 |some (g,b)=>
  match get g s.1.fr with
  | .bool b'=>if b'=b then uG C l xs o.dst o.op s Kn else Kn (s.1.put o.dst ⟨True,.cy [],s.1.hp⟩,s.2)
  | .cy []=>Kn (s.1.put o.dst ⟨True,.cy [],s.1.hp⟩,s.2)
  |_=>False
def mH(C:jL)(l:Nat)(xs:List (List DV)):List ae->SI->(SI->Prop)->Prop
 |[],s,Kn=>Kn s
 |o::r,s,Kn=>FU C l xs o s (λs'=>mH C l xs r s' Kn)
def Iy(next:SI->Prop)(Q:cq->SI->Prop):cq->SI->Prop
 | .normal,s=>next s
 |e,s=>Q e s
def uH(id:Nat)(Q:cq->SI->Prop):cq->SI->Prop
 | .exit id',s=>if id'=id then Q .normal s else Q (.exit id') s
 |e,s=>Q e s
def ju(C:jL)(l:Nat)(xs:List (List DV)):au->(cq->SI->Prop)->SI->Prop
 | .skip,Q,s=>Q .normal s
 | .ops false dl,Q,s=>mH C l xs dl s (Q .normal)
 | .ops true dl,Q,s=>lG C dl s.1 (λs'=>Q .normal (s',s.2))
 | .MQ dl,Q,s=>lG C (dl.map (·.2)) s.1 (λs'=>Q .normal (s',s.2))
 | .seq a b,Q,s=>ju C l xs a (Iy (ju C l xs b Q) Q) s
 | .cond c a b,Q,s=>
   match c.ev s.1.fr with
   | .bool t=>(t=true->ju C l xs a Q s)/\(t=false->ju C l xs b Q s)
   | .FC=>ju C l xs a Q s/\ju C l xs b Q s
   |_=>False
 | .block id c,Q,s=>ju C l xs c (uH id Q) s
 | .loop live m c,Q,s=>∃(I:SI->Prop) (μ:SI->Nat),I (s.1.cut live m,s.2)/\
  ∀s',I s'->ju C l xs c (Iy (λTf=>I (Tf.1.cut live m,Tf.2)/\μ (Tf.1.cut live m,Tf.2)<μ s') Q) s'
 | .exit id,Q,s=>Q (.exit id) s
 | .ret,Q,s=>Q .ret s
 |_,_,_=>False
section
variable {P:Program} {N:Nat} {C:jL} {xs:List (List DV)} {J:Option Nat->(Nat->Prop)->(Nat->Prop)->World->Prop} {l:Nat}
def m0 [Inhabited Env](N:Nat)(J:Option Nat->(Nat->Prop)->(Nat->Prop)->World->Prop)(s:SI)(a:Act)(W:World):Prop:=
 ∃F B K' σ,(∀b,b<W.heap.size->¬B b->K' b)/\bF K' F σ s.1.hp W/\jq F σ s.1.hp W s.1.fr a.tmps/\a.tmps.size=N/\Marks (λb=>¬B b) K' F W a.defers/\(∀b,B b->b<W.heap.size)/\J s.2 F B W
theorem Marks.base{K0 K0' K F}{w:World}(h:∀D,D<w.heap.size->¬K0 D->¬K0' D):∀{ds:List Deferred},Marks K0 K F w ds->Marks K0' K F w ds
 |[],_=>trivial
 |d::ds,hm=>by obtain⟨⟨D,h1,h2,h3,h4,h5,h6⟩,h7⟩:=hm;exact⟨⟨D,h1,h2,h3,h4,h D (Array.getElem?_eq_some_iff.1 h4).1 h5,h6⟩,h7.base h⟩
theorem m0.start [Inhabited Env]{s:DS}{k}{a}{W:World}(h:m0 N J (s,k) a W):
 ∃F B σ,uZ (λb=>b<W.heap.size/\¬B b) N F σ s.hp W s a W/\J k F B W:=by
 obtain⟨F,B,K',σ,hK,hs,hf,hN,hm,hB,hj⟩:=h;exact⟨F,B,σ,⟨K',F,σ,λb hb=>hK b hb.1 hb.2,hs,hf,hN,hm.base λD _ h1 h2=>h1 h2.2,.refl _ _ _,.refl _ _ _ _⟩,hj⟩
theorem m0.afc [Inhabited Env](hJ:wW J){k}{F B}{σ0}{hp0}{W:World}(hk:J k F B W){s'}{a'}{W'}
 (h:uZ (λb=>b<W.heap.size/\¬B b) N F σ0 hp0 W s' a' W'):m0 N J (s',k) a' W':=by
 obtain⟨K',F',σ',C8,hs,hf,hN,pT,yU,yV⟩:=h;refine⟨F',λb=>(B b\/W.heap.size<=b)/\b<W'.heap.size,K',σ',λb h1 h2=>C8 b ?_,hs,hf,hN,pT.base λD h1 h2 h3=>h3 ⟨?_,h1⟩,λb hb=>hb.2,
  hJ k F B W _ _ W' hk ⟨yU.os,yU.tape,yU.output,yU.size,λb hb hn=>yU.qa b ⟨hb,hn⟩,yU.bS,yU.mono,λb hb=> ?_,λb hb=>hb.1,hs.fb,λb hb=>hb.2⟩⟩
 ·have h3:¬(B b\/W.heap.size<=b):=λh=>h2 ⟨h,h1⟩;refine⟨?_,λh=>h3 (.inl h)⟩;rcases Nat.lt_or_ge b W.heap.size with h|h
  ·exact h
  ·exact absurd (.inr h) h3
 ·rcases yU.new b hb with h|h
  ·exact .inl h
  ·by_cases h1:B b
   ·exact .inr (.inl h1)
   ·refine .inr (.inr ?_);rcases Nat.lt_or_ge b W.heap.size with h2|h2
    ·exact absurd ⟨h2,h1⟩ h
    ·exact h2
 ·by_cases hb:B D
  ·exact .inl hb
  ·rcases Nat.lt_or_ge D W.heap.size with h|h
   ·exact absurd ⟨h,hb⟩ h2
   ·exact .inr h
def QI [Inhabited Env](N:Nat)(J:Option Nat->(Nat->Prop)->(Nat->Prop)->World->Prop)(Q:cq->SI->Prop):Exit->Act->World->Prop
 | .normal,a,w=>∃s,m0 N J s a w/\Q .normal s
 | .exit id,a,w=>∃s,m0 N J s a w/\Q (.exit id) s
 | .ret,a,w=>∃s,m0 N J s a w/\Q .ret s
 |_,_,_=>False
theorem Z0{F}{σ}{hp}{w}{d}{v}(h:aB F σ hp w d v)(hd:aky d=true):aB F none_ [] w d v:=by
 cases d with
 |agg cs=>
  obtain⟨vs,rfl,hl,hr⟩:=h.pN;exact aB.uB hl λj d' oF=>let⟨u,hu,hr⟩:=hr j d' oF;⟨u,hu,Ih hr (List.all_eq_true.1 hd d' (List.mem_of_getElem? oF))⟩
 |_=>exact Ih h hd
theorem ao9{o:Oper}{a:Act}{w}{x}{args:Array Operand}{ts:Array TypeId}(ho:o.op= .call {callee:= .value x,args,argTypes:=ts})(hx:a.eval x= .func (.yield l) #[] #[]):
 (execOp a.eval o).run P w=(Instr.yield l (args.map a.eval)).run P w:=by
 simp only[execOp,ho,resolve,hx,Deferred.ofValue,Sem.run_bind,Sem.run_pure,Result.andThen_ok,invoke,Array.empty_append]
theorem m0.turned [Inhabited Env]{s:DS}{k'}{F B K'}{σ}{a:Act}{W W':World}{F'}(hKB:∀b,b<W.heap.size->¬B b->K' b)(hs:bF K' F σ s.hp W)(hf:jq F σ s.hp W s.fr a.tmps)(hN:a.tmps.size=N)
 (Nu:Marks (λb=>¬B b) K' F W a.defers) (hB:∀b,B b->b<W.heap.size) (f1:∀c,F c->F' c) (f2:∀c,F' c->F c\/¬B c) (f3:∀c,F' c->c<W'.heap.size) (f4:W.heap.size<=W'.heap.size) (f5:∀c,F c->W'.heap[c]? =W.heap[c]?) (f6:∀c,B c->W'.heap[c]? =W.heap[c]?) (hj':J k' F' B W')
 {dst} (fM:∀t,dst=some t->t<N) {v} {u} (hvu:aB F' σ s.hp W' v u):m0 N J (s.put dst ⟨True,v,s.hp⟩,k') (a.put dst u) W':=by
 obtain⟨um,zX⟩:=hs.turn (K':=λb=>K' b\/(W.heap.size<=b/\b<W'.heap.size)) (F':=F') f4 f5 (λb hb hk=>f6 b (Classical.byContradiction λh=>hk (hKB b hb h))) f1
  (λc hc=>(f2 c hc).imp id λh=>by
   rcases Nat.lt_or_ge c W.heap.size with h1|h1
   ·exact .inl (hKB c h1 h)
   ·exact .inr h1) (λb hb=>hb.imp id (·.1)) f3 (λb hb=>hb.elim (λh=>by have:=hs.kb b h;omega) (·.2))
 have asP:∀{ds:List Deferred},Marks (λb=>¬B b) K' F W ds->Marks (λb=>¬B b) (λb=>K' b\/(W.heap.size<=b/\b<W'.heap.size)) F' W' ds:=by
  intro ds;induction ds with
  |nil=>intro _;trivial
  |cons d ds ih=>
   rintro⟨⟨D,h1,h2,h3,h4,h5,h6⟩,h7⟩
   have hBD:=Classical.byContradiction h5;exact⟨⟨D,h1,.inl h2,λh=>(f2 D h).elim h3 (λh=>h hBD),(f6 D hBD).trans h4,h5,h6⟩,ih h7⟩
 refine⟨F',B,λb=>K' b\/(W.heap.size<=b/\b<W'.heap.size),σ,λc h1 h2=> ?_,?_,?_,?_,?_,λc hc=>Nat.lt_of_lt_of_le (hB c hc) f4,hj'⟩
 ·rcases Nat.lt_or_ge c W.heap.size with h3|h3
  ·exact .inl (hKB c h3 h2)
  ·exact .inr ⟨h3,h1⟩
 ·cases dst<;>exact um
 ·have:=hf.put zX (dst:=dst) (λt ht=>by rw[hN];exact fM t ht) hvu;cases dst<;>exact this
 ·cases dst<;>simp[Act.put,hN]
 ·cases dst<;>exact asP Nu
theorem ahk{F}{σ}{hp}{w}{d}{v}{l}(h:aB F σ hp w d v)(hd:Mb l d=true):aB F none_ [] w ((DV.unY d).reY l) v:=by
 cases d with
 |Qm l'=>
  have e:l'=l:=by simpa[Mb]using hd
  subst e;rw[h.afd];exact .aN (.Qm l')
 |_=>exact Z0 h hd
theorem Qr [Inhabited Env](hC:C.ok P)(hJ:wW J)(hR:zc P l xs J){ops:Array Oper}{o:Oper}{d:ae}(hm:Ig P N ops o d=true){s}{a}{W}(hc:m0 N J s a W){Kd}{Kn}{Q:Exit->Act->World->Prop}
 (hK:∀s' a' w',m0 N J s' a' w'->Kd s'->Kn a' w') (h:uG C l xs d.dst d.op s Kd):o.wpIn (Fw none) 0 P a W Kn Q:=by
 obtain⟨s,k⟩:=s;unfold uG at h;have zo:=hm;simp only[Ig,Bool.and_eq_true,decide_eq_true_eq]at hm;obtain⟨⟨⟨ZP,ZQ⟩,fM⟩,hg⟩:=hm;cases hy:v9 l s.fr d.op with
 |none=>
  simp only[hy]at h;by_cases hw:∃f args,d.op= .v7 f args
  ·obtain⟨f,gs,hd⟩:=hw;simp only[hd]at h ZP;obtain⟨n,hn,bG,mn,sS,ht,Zd⟩:=h;subst hn;obtain⟨F,B,K',σ,hKB,hs,hf,hN,Nu,hB,hj⟩:=hc;obtain⟨lI,htl⟩:=hC.w f _ bG;generalize (C.w f ((gs.map (·.ev s.fr)).map DV.unY)).2=ys at*;cases hoo:o.op with
   |call cl=>
    rw[hoo]at ZP;obtain⟨cal,args,ts⟩:=cl;cases cal with
    |value x=>
     cases x with
     |func f'=>
      have ahl:f'=f/\gp args.toList gs=true:=by simpa[Qf,Tn]using ZP
      obtain⟨rfl,ahl⟩:=ahl;have kJ:=mg hf ahl;have hvs:dS (aB F none_ [] W) (((gs.map (·.ev s.fr)).map DV.unY).map (DV.reY l)) (args.map a.eval).toList:=by rw[List.map_map];refine⟨by simpa using kJ.1,λj d hd=> ?_⟩;simp only[List.getElem?_map,Option.map_eq_some_iff]at hd;obtain⟨d',oF,rfl⟩:=hd;obtain⟨u,hu,hr⟩:=kJ.2 j d' (by simpa using oF);exact⟨u,hu,ahk hr (List.all_eq_true.1 mn d' (List.mem_of_getElem? (by simpa using oF)))⟩
      refine aoJ (.inl rfl) ?_;have N3:=htl l (λk F B W=>J (k.map (n+·)) F B W) (λb=>b<W.heap.size) F B W (args.map a.eval) (λk F B W F' B' W' h st=>hJ _ F B W F' B' W' h st)
       (λk F B W x vs hk h1 h2 hx hr=>by
        obtain⟨fn,tm,Ib,bd,e1,e2⟩:=hR (n+k) F B W x vs hk h1 h2 (sS k x hx) hr;refine⟨fn,tm,Ib,bd,e1,RoundIn.mono e2 ?_⟩
        rintro e W' ⟨b,F',g1,g2,g3,g4,g5,g6,g7,g8⟩
        refine⟨b,F',g1,g2,g3,g4,g5,g6,g7,?_⟩;cases b<;>exact g8) hB (λb hb=>hb)
       ⟨λh o ho=>by simp at ho,λh h' o o' g e1=>by simp at e1,hs.fb,λb hb=>hb,hs.mf⟩ hvs hj
      have:=jr (a:=a) (w:=W) (P:=P) (R:=λv W'=>∃b F',v= .bool b/\(∀c,F c->F' c)/\(∀c,F' c->F c\/¬B c)/\(∀c,F' c->c<W'.heap.size)/\W.heap.size<=W'.heap.size/\
       (∀c,F c->W'.heap[c]? =W.heap[c]?)/\(∀c,B c->W'.heap[c]? =W.heap[c]?)/\J ((if b then some ys.length else none).map (n+·)) F' B W') (ry (caps:= #[]) hoo rfl lI) (by
        rw[Array.append_empty];exact(callsIn_wide.1 N3).mono λe W' ⟨b,F',he,r⟩=>⟨.bool b,he,b,F',rfl,r⟩)
      refine this Kn Q λv W' hv=> ?_;obtain⟨b,F',rfl,f1,f2,f3,f4,f5,f6,hj'⟩:=hv;rw[ZQ];refine hK _ _ _ (m0.turned hKB hs hf hN Nu hB f1 f2 f3 f4 f5 f6 hj' (dst:=d.dst) (v:= .bool b) (λt ht=>by rw[ht]at fM;simpa using fM) (.aN (.bool b))) ?_;cases b with
      |true=>exact ht
      |false=>exact Zd
     |_=>simp[Qf,Tn]at ZP
    |_=>simp[Qf,Tn]at ZP
   |_=>rw[hoo]at ZP;simp[Qf,Tn]at ZP
  replace h:(aC C d.op s).pre/\Kd (s.put d.dst (aC C d.op s),k):=by
   cases hd:d.op with
   |v7 f args=>exact absurd ⟨f,args,hd⟩ hw
   |_=>rw[hd]at h;exact h
  obtain⟨F,B,σ,pM,hj⟩:=hc.start;obtain⟨K',F1,σ1,C8,hs,hf,hN,pT,yU,yV⟩:=pM;refine aoJ (.inl rfl) ?_;have:=Tr (P:=P) (K:=K') hC hs hf (o:=o) rfl ZP h.1;refine this Kn Q λv w' hgv=> ?_;obtain⟨F',σ',h1,h2,h3,h4⟩:=hgv;rw[ZQ];refine hK _ _ _ (m0.afc (σ0:=σ) (hp0:=s.hp) hJ hj ?_) h.2;rw[ae3];exact uZ.put C8 hf hN pT yU yV (λt ht=>by rw[ht]at fM;simpa using fM) h1 h2 h3 h4
 |some ys=>
  simp only[hy]at h;obtain⟨n,hn,hx,him,ht,Zd⟩:=h;subst hn;cases hd:d.op with
  |qt g gs=>
   rw[hd]at ZP hy;simp only[v9]at hy;cases hgv:g.ev s.fr with
   |Qm l'=>
    simp only[hgv]at hy;split at hy
    ·rename_i e;subst e;injection hy with hy;subst hy;obtain⟨F,B,K',σ,hKB,hs,hf,hN,Nu,hB,hj⟩:=hc;cases hoo:o.op with
     |call cl=>
      rw[hoo]at ZP;obtain⟨cal,args,ts⟩:=cl;cases cal with
      |value x=>
       have ahl:cF x g=true/\gp args.toList gs=true:=by cases x<;>simpa[Qf,Tn]using ZP
       have hv:=aE hf ahl.1;rw[hgv]at hv;have kJ:=mg hf ahl.2;have hvs:dS (aB F none_ [] W) (gs.map (·.ev s.fr)) (args.map a.eval).toList:=⟨kJ.1,λj d hd=>by obtain⟨u,hu,hr⟩:=kJ.2 j d hd;exact⟨u,hu,Z0 hr (List.all_eq_true.1 him d (List.mem_of_getElem? hd))⟩⟩
       obtain⟨fn,tm,Ib,bd,hyl,acT⟩:=hR n F B W _ _ hj hs.fb hB hx hvs;rw[Array.toArray_toList]at hyl;refine⟨λ_ _=>trivial,?_⟩;have e1:o.semAt (Fw none).round a.eval=execOp a.eval o:=rfl;rw[e1,ao9 hoo hv.afd,hyl,Oper.uponIn_round];refine⟨λh=>by simp[Fw,Fence.wide]at h,RoundIn.mono (show RoundIn Fence.wide 0 P l' fn tm Ib bd W _ from acT) ?_⟩
       rintro e W' ⟨b,F',rfl,f1,f2,f3,f4,f5,f6,hj'⟩
       obtain⟨um,zX⟩:=hs.turn (K':=λb=>K' b\/(W.heap.size<=b/\b<W'.heap.size)) (F':=F') f4 f5 (λb hb hk=>f6 b (Classical.byContradiction λh=>hk (hKB b hb h))) f1
        (λc hc=>(f2 c hc).imp id λh=>by
         rcases Nat.lt_or_ge c W.heap.size with h1|h1
         ·exact .inl (hKB c h1 h)
         ·exact .inr h1) (λb hb=>hb.imp id (·.1)) f3 (λb hb=>hb.elim (λh=>by have:=hs.kb b h;omega) (·.2))
       have asP:∀{ds:List Deferred},Marks (λb=>¬B b) K' F W ds->Marks (λb=>¬B b) (λb=>K' b\/(W.heap.size<=b/\b<W'.heap.size)) F' W' ds:=by
        intro ds;induction ds with
        |nil=>intro _;trivial
        |cons d ds ih=>
         rintro⟨⟨D,h1,h2,h3,h4,h5,h6⟩,h7⟩
         have hBD:B D:=Classical.byContradiction h5;exact⟨⟨D,h1,.inl h2,λh=>(f2 D h).elim h3 (λh=>h hBD),(f6 D hBD).trans h4,h5,h6⟩,ih h7⟩
       have fin:∀(v:DV) (u:Value),aB F' σ s.hp W' v u->m0 N J (s.put d.dst ⟨True,v,s.hp⟩,if b then some (n+1)else none) (a.put o.dst u) W':=by
        intro v u hvu;refine⟨F',B,λb=>K' b\/(W.heap.size<=b/\b<W'.heap.size),σ,λc h1 h2=> ?_,?_,?_,?_,?_,λc hc=>Nat.lt_of_lt_of_le (hB c hc) f4,hj'⟩
        ·rcases Nat.lt_or_ge c W.heap.size with h3|h3
         ·exact .inl (hKB c h3 h2)
         ·exact .inr ⟨h3,h1⟩
        ·cases d.dst<;>exact um
        ·rw[ZQ];have:=hf.put zX (dst:=d.dst) (λt ht=>by rw[hN];rw[ht]at fM;simpa using fM) hvu;generalize d.dst=dd at this|-;cases dd<;>exact this
        ·cases o.dst<;>simp[Act.put,hN]
        ·cases o.dst<;>exact asP Nu
       cases b with
       |true=>exact hK _ _ _ (fin (.bool true) (.bool true) (.aN (.bool true))) ht
       |false=>exact hK _ _ _ (fin (.bool false) (.bool false) (.aN (.bool false))) Zd
      |_=>simp[Qf,Tn]at ZP
     |_=>rw[hoo]at ZP;simp[Qf,Tn]at ZP
    ·cases hy
   |_=>simp[hgv]at hy
  |_=>simp[hd,v9]at hy
theorem m0.put [Inhabited Env]{s}{a:Act}{W}(hc:m0 N J s a W){dst}(fM:∀t,dst=some t->t<N){d}{v}(hv:∀F σ hp w,aB F σ hp w d v):m0 N J (s.1.put dst ⟨True,d,s.1.hp⟩,s.2) (a.put dst v) W:=by
 obtain⟨F,B,K',σ,hK,hs,hf,hN,Nu,hB,hj⟩:=hc;refine⟨F,B,K',σ,hK,?_,?_,?_,?_,hB,hj⟩
 ·cases dst<;>exact hs
 ·have:=hf.put (.refl F σ s.1.hp W) (dst:=dst) (λt ht=>by rw[hN];exact fM t ht) (hv F σ s.1.hp W);cases dst<;>exact this
 ·cases dst<;>simp[Act.put,hN]
 ·cases dst<;>exact Nu
theorem Z1 [Inhabited Env](hC:C.ok P)(hJ:wW J)(hR:zc P l xs J){ops:Array Oper}{o:Oper}{d}(hm:Ig P N ops o d=true){s}{a:Act}{W}(hc:m0 N J s a W){Kd}{Kn}{Q:Exit->Act->World->Prop}
 (hK:∀s' a' w',m0 N J s' a' w'->Kd s'->Kn a' w') (h:FU C l xs d s Kd):
 if Region.wanted o (yielded ops a.tmps)=true then o.wpIn (Fw none) 0 P a W Kn Q else Kn (a.put o.dst undef) W:=by
 have zo:=hm;simp only[Ig,Bool.and_eq_true,decide_eq_true_eq]at hm;obtain⟨⟨⟨ZP,ZQ⟩,fM⟩,hg⟩:=hm;have skip:Kd (s.1.put d.dst ⟨True,.cy [],s.1.hp⟩,s.2)->Kn (a.put o.dst undef) W:=by intro hk;rw[ZQ];exact hK _ _ _ (hc.put (λt ht=>by rw[ht]at fM;simpa using fM) λF σ hp w=> .cy [] #[] rfl (λ_=>undef) (λj d hd=>by simp at hd) (λj d hd=>by simp at hd)) hk
 unfold FU at h;cases hgd:d.guard with
 |none=>
  rw[hgd]at h hg;have ho:o.guard=none:=by
   cases hh:o.guard with
   |none=>rfl
   |some x=>rw[hh]at hg;simp[FH]at hg
  rw[if_pos (by simp[Region.wanted,ho])];exact Qr hC hJ hR zo hc hK h
 |some gb=>
  obtain⟨t,b⟩:=gb;rw[hgd]at h hg;cases hh:o.guard with
  |none=>rw[hh]at hg;simp[FH]at hg
  |some x=>
   obtain⟨j,b'⟩:=x;rw[hh]at hg;simp only[FH,Bool.and_eq_true,decide_eq_true_eq,beq_iff_eq]at hg;obtain⟨ht,rfl⟩:=hg;have hf:=hc.choose_spec.choose_spec.choose_spec.choose_spec.2.2.1;obtain⟨y1,y2⟩:=Qg hf ht;dsimp only at h;cases JU:get t s.1.fr with
   |bool c=>
    simp only[JU]at h;have hy:=y1 c JU;simp only[Region.wanted,hh,hy];by_cases hcb:c=b'
    ·subst hcb;simp only[if_true]at h;rw[if_pos (by simp)];exact Qr hC hJ hR zo hc hK h
    ·rw[if_neg hcb]at h;rw[if_neg (by simpa using hcb)];exact skip h
   |cy vs=>
    cases vs with
    |nil=>
     simp only[JU]at h;have hy:=y2 JU;simp only[Region.wanted,hh,hy];rw[if_neg (by simp)];exact skip h
    |cons=>simp only[JU]at h
   |_=>simp only[JU]at h
theorem Qs [Inhabited Env](hC:C.ok P)(hJ:wW J)(hR:zc P l xs J){ops:Array Oper}{Q:Exit->Act->World->Prop}{Kd}(hK:∀s' a' w',m0 N J s' a' w'->Kd s'->Q .normal a' w'):∀{ol:List Oper} {dl:List ae} {s:SI} {a:Act} {w:World},
 wU P N ops ol dl=true->m0 N J s a w->mH C l xs dl s Kd->wpListIn (Fw none) 0 P ops Q ol a w
 |[],[],s,a,w,_,hc,h=>hK s a w hc h
 |o::ol,d::dl,s,a,w,hm,hc,h=>by
  simp only[wU,Bool.and_eq_true]at hm;have:=Z1 hC hJ hR hm.1 hc (Kn:=wpListIn (Fw none) 0 P ops Q ol) (Q:=Q) (λs' a' w' jg h'=>Qs hC hJ hR hK hm.2 jg h') h;unfold wpListIn;split at this
  ·rename_i hw;rw[if_pos hw];exact this
  ·rename_i hw;rw[if_neg hw];exact⟨λ_ _=>trivial,this⟩
 |[],_::_,_,_,_,hm,_,_=>by simp[wU]at hm
 |_::_,[],_,_,_,hm,_,_=>by simp[wU]at hm
theorem iz [Inhabited Env](hC:C.ok P)(hJ:wW J)(hR:zc P l xs J):∀(dc:au) (c:Code) (Q:cq->SI->Prop) (s:SI) (a:Act) (w:World),eE P N c dc=true->ju C l xs dc Q s->m0 N J s a w->Code.wpIn (Fw none) 0 P c (QI N J Q) a w
 | .skip,cc,Q,s,a,w,hm,h,hc=>by
   cases cc with
   |skip=>exact wpIn_skip ⟨s,hc,h⟩
   |label l=>exact wpIn_label ⟨s,hc,h⟩
   |_=>exact(Bool.false_ne_true hm).elim
 | .ops alv dl,cc,Q,s,a,w,hm,h,hc=>by
   cases cc with
   |region rid ops draw=>
    simp only[eE,Bool.and_eq_true,beq_iff_eq]at hm;obtain⟨rfl,hm⟩:=hm;cases draw with
    |false=>exact wpIn_region_list (Qs hC hJ hR (λs' a' w' jg h'=>⟨s',jg,h'⟩) (by simpa using hm) hc h)
    |true=>
     obtain⟨s,k⟩:=s;obtain⟨F,B,σ,pM,hj⟩:=hc.start;refine nk hC (.inl rfl) (gg:=[]) (by simpa using hm) (λs' a' w' jg h'=>⟨(s',k),m0.afc hJ hj jg,h'⟩) pM (λp hp=>by simp at hp) ?_;rw[Bp];exact h
   |_=>exact(Bool.false_ne_true hm).elim
 | .MQ dl,cc,Q,s,a,w,hm,h,hc=>by
   cases cc with
   |region rid ops draw=>
    simp only[eE,Bool.and_eq_true]at hm;obtain⟨rfl,hm⟩:=hm;obtain⟨s,k⟩:=s;obtain⟨F,B,σ,pM,hj⟩:=hc.start;exact nk hC (.inl rfl) hm (λs' a' w' jg h'=>⟨(s',k),m0.afc hJ hj jg,h'⟩) pM (λp hp=>by simp at hp) h
   |_=>exact(Bool.false_ne_true hm).elim
 | .seq x' y',cc,Q,s,a,w,hm,h,hc=>by
   cases cc with
   |seq x y=>
    simp only[eE,Bool.and_eq_true]at hm;refine wpIn_seq (wpIn_mono (iz hC hJ hR x' x _ s a w hm.1 h hc) λe a' w' hq=> ?_);cases e with
    |normal=>obtain⟨s',jg,h'⟩:=hq;exact iz hC hJ hR y' y Q s' a' w' hm.2 h' jg
    |exit id=>obtain⟨s',jg,h'⟩:=hq;exact⟨s',jg,h'⟩
    |ret=>obtain⟨s',jg,h'⟩:=hq;exact⟨s',jg,h'⟩
    |goto l=>exact hq.elim
    |panic c=>exact hq.elim
    |outgrown=>exact hq.elim
   |_=>exact(Bool.false_ne_true hm).elim
 | .cond c' x' y',cc,Q,s,a,w,hm,h,hc=>by
   cases cc with
   |cond c x y=>
    simp only[eE,Bool.and_eq_true]at hm;have hf:=hc.choose_spec.choose_spec.choose_spec.choose_spec.2.2.1;have hv:=aE hf hm.1.1;simp only[ju]at h;cases he:c'.ev s.1.fr with
    |bool t=>
     rw[he]at hv;simp only[he]at h;exact wpIn_cond_split hv.iO (λht=>iz hC hJ hR x' x Q s a w hm.1.2 (h.1 ht) hc) (λht=>iz hC hJ hR y' y Q s a w hm.2 (h.2 ht) hc)
    |FC=>
     rw[he]at hv;simp only[he]at h;obtain⟨b,hb⟩:=hv.Zz;exact wpIn_cond_split hb (λ_=>iz hC hJ hR x' x Q s a w hm.1.2 h.1 hc) (λ_=>iz hC hJ hR y' y Q s a w hm.2 h.2 hc)
    |_=>simp only[he]at h
   |_=>exact(Bool.false_ne_true hm).elim
 | .block id' c',cc,Q,s,a,w,hm,h,hc=>by
   cases cc with
   |block id c=>
    simp only[eE,Bool.and_eq_true,beq_iff_eq]at hm;obtain⟨rfl,hm⟩:=hm;refine wpIn_block (wpIn_mono (iz hC hJ hR c' c _ s a w hm h hc) λe a' w' hq=> ?_);cases e with
    |normal=>obtain⟨s',jg,h'⟩:=hq;exact⟨s',jg,h'⟩
    |exit k=>
     obtain⟨s',jg,h'⟩:=hq;simp only[uH]at h';simp only[Exit.inBlock];split at h'
     ·rename_i e;rw[if_pos e];exact⟨s',jg,h'⟩
     ·rename_i e;rw[if_neg e];exact⟨s',jg,h'⟩
    |ret=>obtain⟨s',jg,h'⟩:=hq;exact⟨s',jg,h'⟩
    |goto l=>exact hq.elim
    |panic c=>exact hq.elim
    |outgrown=>exact hq.elim
   |_=>exact(Bool.false_ne_true hm).elim
 | .loop live m c',cc,Q,s,a,w,hm,h,hc=>by
   cases cc with
   |loop c=>
    simp only[eE]at hm;simp only[ju]at h;obtain⟨I,μ,h0,hr⟩:=h;have ak9:∀{s:SI} {a:Act} {w:World},m0 N J s a w->m0 N J (s.1.cut live m,s.2) a w:=by
     rintro⟨s,k⟩ a w ⟨F,B,K',σ,hK,hs,hf,hN,Nu,hB,hj⟩
     have hx:acV (λb=>b<w.heap.size/\¬B b) N F none_ [] w K' F σ s a w:=⟨λb hb=>hK b hb.1 hb.2,hs,hf,hN,Nu.base λD _ h1 h2=>h1 h2.2,.refl _ _ _,zo⟩;obtain⟨_,h2,h3,h4,_⟩:=hx.cut live m (by cases m<;>simp);exact⟨F,B,K',σ,hK,h2,h3,h4,Nu,hB,hj⟩
    refine wpIn_loop_ghost (λi a w=>∃s',m0 N J s' a w/\I s'/\μ s'=i) (μ (s.1.cut live m,s.2)) ⟨_,ak9 hc,h0,rfl⟩ λi a w hI=> ?_;obtain⟨s',jg,hI',rfl⟩:=hI;refine wpIn_mono (iz hC hJ hR c' c _ s' a w hm (hr s' hI') jg) λe a' w' hq=> ?_;cases e with
    |normal=>
     obtain⟨Tf,asn,h''⟩:=hq;exact⟨_,h''.2,_,ak9 asn,h''.1,rfl⟩
    |exit id=>obtain⟨s',jg,h'⟩:=hq;exact⟨s',jg,h'⟩
    |ret=>obtain⟨s',jg,h'⟩:=hq;exact⟨s',jg,h'⟩
    |goto l=>exact hq.elim
    |panic c=>exact hq.elim
    |outgrown=>exact hq.elim
   |_=>exact(Bool.false_ne_true hm).elim
 | .exit id',cc,Q,s,a,w,hm,h,hc=>by
   cases cc with
   |exit id=>
    simp only[eE,beq_iff_eq]at hm;subst hm;exact wpIn_exit ⟨s,hc,h⟩
   |_=>exact(Bool.false_ne_true hm).elim
 | .ret,cc,Q,s,a,w,hm,h,hc=>by
   cases cc with
   |ret=>exact wpIn_ret ⟨s,hc,h⟩
   |_=>exact(Bool.false_ne_true hm).elim
 | .MR ..,_,_,_,_,_,_,h,_=>h.elim
 | .H7 ..,_,_,_,_,_,_,h,_=>h.elim
 | .scope ..,_,_,_,_,_,_,h,_=>h.elim
 | .qu ..,_,_,_,_,_,_,h,_=>h.elim
 | .rsv ..,_,_,_,_,_,_,h,_=>h.elim
 | .bad,_,_,_,_,_,_,h,_=>h.elim
 | .cut ..,_,_,_,_,_,_,h,_=>h.elim
def ahm(m:Nat):cq->SI->Prop
 | .exit _,_=>False
 |_,s=>s.2=none\/s.2=some m
theorem Wa [Inhabited Env](hJ:wW J){fn:Func}{s}{tm:Array Value}{R:Ending->World->Prop}
 (h:∀w',m0 fn.ntmps J s {tmps:=tm,defers:=[]} w'->∃v,(results fn tm).run P w'= .ok v w'/\R (.returned v) w'):
 ∀(ds:List Deferred) (w':World),m0 fn.ntmps J s {tmps:=tm,defers:=ds} w'->LeavesInM Fence.wide 0 P fn tm R ds .returning w'
 |[],w',hc=>h w' hc
 |d::ds,w',hc=>by
  obtain⟨F,B,K',σ,hK,hs,hf,hN,Nu,hB,hj⟩:=hc;obtain⟨⟨D,rfl,kD,fD,hD,k0,hni⟩,Td⟩:=Nu;refine⟨by simp,.inl ⟨D,_,rfl,run_takeDeferred hD,Wa hJ h ds _ ?_⟩⟩;have hBD:=Classical.byContradiction k0;have mG:∀b,b≠D->(w'.putObj D (.deferred none)).heap[b]? =w'.heap[b]? :=λb hb=>World.putObj_heap_other hb;obtain⟨s1,m1⟩:=hs.turn (K':=K') (F':=F) (w':=w'.putObj D (.deferred none)) (by simp) (λb hb=>mG b λe=>fD (e▸hb)) (λb _ hb=>mG b λe=>hb (e▸kD)) (λ_ h=>h) (λ_ h=> .inl h) (λ_ h=> .inl h)
   (λb hb=>by simpa using hs.fb b hb) (λb hb=>by simpa using hs.kb b hb)
  exact⟨F,B,K',σ,λb h1 h2=>hK b (by simpa using h1) h2,s1,λn=>(hf n).mono m1,hN,Td.put hni,λb hb=>by simpa using hB b hb,
   hJ _ F B w' F B _ hj ⟨rfl,rfl,rfl,by simp,λb _ hb=>mG b λe=>hb (e▸hBD),λb hb=>mG b λe=>fD (e▸hb),λ_ h=>h,λ_ h=> .inl h,λ_ h=> .inl h,λb hb=>by simpa using hs.fb b hb,λb hb=>by simpa using hB b hb⟩⟩
theorem ahn [Inhabited Env](hC:C.ok P){f}{d:ay}{caps:List DV}{xs:List (List DV)}(hm:qe P f (caps.length+1) d=true)(KD:d.res=[])
 (h:∀l,ju C l xs d.code (ahm xs.length) (⟨aQ 0 (.Qm l::(jy caps).1),(jy caps).2⟩,some 0)):ie P f=true/\VX P f caps xs:=by
 obtain⟨lI,fn,c,hf,hb,hn,hc,hr⟩:=uC hm;refine⟨lI,λl J F B σI W cv hJ hR hB hs hcv hj=> ?_⟩;rw[<-TE caps]at hn;have ha:dS (aB F σI (jy caps).2 W) (.Qm l::(jy caps).1) (#[Value.func (.yield l) #[] #[]]++cv).toList:=by rw[Array.toList_append];exact .ic (.aN (.Qm l)) (by simpa using hcv)
 obtain⟨K',F1,σ1,C8,kB,hf1,hN1,hd1,_,_⟩:=xZ (nt:=fn.ntmps) hs ha (by simpa using hn);have pM:m0 fn.ntmps J (⟨aQ 0 (.Qm l::(jy caps).1),(jy caps).2⟩,some 0) {tmps:=(#[Value.func (.yield l) #[] #[]]++cv)++Array.replicate (fn.ntmps-(#[Value.func (.yield l) #[] #[]]++cv).size) undef,defers:=[]} W:=by refine⟨F,B,_,σI,λb h1 h2=>⟨h1,h2⟩,hs,?_,hN1,trivial,hB,hj⟩;have hx:=xZ (K:=λb=>b<W.heap.size/\¬B b) (nt:=fn.ntmps) hs ha (by simpa using hn);exact Bq ha (by simpa using hn)
 refine callsIn_of_wp_marks (F:=Fence.wide) (n:=0) hf hb trivial (wpIn_mono (show c.wpIn Fence.wide 0 P _ _ W from iz hC hJ hR d.code c _ _ _ W hc (h l) pM) ?_);have key:∀(s:SI) (a:Act) (w':World),m0 fn.ntmps J s a w'->(s.2=none\/s.2=some xs.length)->LeavesInM Fence.wide 0 P fn a.tmps (λe W'=>(∃v,e= .returned v)/\∃F' B' k,J k F' B' W'/\(k=none\/k=some xs.length)) a.defers .returning w':=by
  rintro s ⟨tm,ds⟩ w' hx hq
  refine Wa hJ (λw'' jg=> ?_) ds w' hx;obtain⟨F',B',K',σ,hK,um,Zd,hN',Nu,hB',hj'⟩:=jg;rw[KD]at hr;obtain⟨v,hv,_⟩:=Ie (ys:=[]) um Zd hr trivial;exact⟨v,hv,⟨v,rfl⟩,F',B',s.2,hj',hq⟩
 intro e a w' hq;cases e with
 |normal=>obtain⟨s,hc,h1⟩:=hq;exact key s a w' hc h1
 |ret=>obtain⟨s,hc,h1⟩:=hq;exact key s a w' hc h1
 |exit id=>obtain⟨s,hc,h0⟩:=hq;exact h0.elim
 |goto l=>exact hq.elim
 |panic c=>exact hq.elim
 |outgrown=>exact hq.elim
def apa:DV->Option Nat->Nat->Prop
 | .bool true,k,m=>k=some m
 | .bool false,k,_=>k=none
 |_,_,_=>False
def al2(rs:List DR)(m:Nat):cq->SI->Prop
 | .exit _,_=>False
 |_,s=>(aW s.1 rs).1/\apa (aW s.1 rs).2 s.2 m
theorem aho [Inhabited Env](hC:C.ok P){f:FuncId}{d:ay}{args:List DV}{ys:List (List DV)}(hm:qe P f args.length d=true)
 (h:∀l,ju C l ys d.code (al2 d.res ys.length) (⟨aQ 0 (args.map (DV.reY l)),[]⟩,some 0)):ie P f=true/\VZ P f args ys:=by
 obtain⟨lI,fn,c,hf,hb,hn,hc,hr⟩:=uC hm;refine⟨lI,λl J K F B W cv hJ hR hB hK hs hcv hj=> ?_⟩;obtain⟨J',hJe⟩:∃J':Option Nat->(Nat->Prop)->(Nat->Prop)->World->Prop,J'=λk F1 B1 W1=>(∀b,B1 b->W.heap.size<=b)/\(∀c,F c->F1 c)/\(∀c,F1 c->F c\/¬B c)/\W.heap.size<=W1.heap.size/\
  (∀c,F c->W1.heap[c]? =W.heap[c]?)/\(∀c,B c->W1.heap[c]? =W.heap[c]?)/\J k F1 (λb=>B b\/B1 b) W1:=⟨_,rfl⟩
 have hJ':wW J':=by
  subst hJe
  rintro k F1 B1 W1 F2 B2 W2 ⟨g1,g2,g3,g4,g5,g6,g7⟩ st
  have gB:∀b,B b->b<W1.heap.size/\¬B1 b:=λb hb=>⟨Nat.lt_of_lt_of_le (hB b hb) g4,λh=>absurd (g1 b h) (by have:=hB b hb;omega)⟩;refine⟨λb hb=> ?_,λc hc=>st.mono c (g2 c hc),λc hc=> ?_,Nat.le_trans g4 st.size,λc hc=>(st.bS c (g2 c hc)).trans (g5 c hc),λc hc=>(st.heap c (gB c hc).1 (gB c hc).2).trans (g6 c hc),hJ _ _ _ _ _ _ _ g7 ?_⟩
  ·rcases st.own b hb with h|h
   ·exact g1 b h
   ·omega
  ·rcases st.new c hc with h|h|h
   ·exact g3 c h
   ·exact .inr λhb=>absurd (g1 c h) (by have:=hB c hb;omega)
   ·exact .inr λhb=>absurd (hB c hb) (by omega)
  ·refine⟨st.os,st.tape,st.output,st.size,λb h1 h2=>st.heap b h1 λh=>h2 (.inr h),st.bS,st.mono,λb hb=> ?_,λb hb=> ?_,st.fb,λb hb=> ?_⟩
   ·rcases st.new b hb with h|h|h
    ·exact .inl h
    ·exact .inr (.inl (.inr h))
    ·exact .inr (.inr h)
   ·rcases hb with h|h
    ·exact .inl (.inl h)
    ·rcases st.own b h with h|h
     ·exact .inl (.inr h)
     ·exact .inr h
   ·rcases hb with h|h
    ·exact Nat.lt_of_lt_of_le (gB b h).1 st.size
    ·exact st.bb b h
 have hR':zc P l ys J':=by
  subst hJe
  rintro k F1 B1 W1 x vs ⟨g1,g2,g3,g4,g5,g6,g7⟩ hfb hbb hx hv
  obtain⟨fn,tm,Ib,bd,hy,hro⟩:=hR k F1 _ W1 x vs g7 hfb (λb hb=>hb.elim (λh=>Nat.lt_of_lt_of_le (hB b h) g4) (hbb b)) hx hv;refine⟨fn,tm,Ib,bd,hy,RoundIn.mono hro ?_⟩
  rintro e W' ⟨b,F',he,f1,f2,f3,f4,f5,f6,hj'⟩
  refine⟨b,F',he,f1,λc hc=>(f2 c hc).imp id λh hb=>h (.inr hb),f3,f4,f5,λc hc=>f6 c (.inr hc),g1,λc hc=>f1 c (g2 c hc),λc hc=> ?_,Nat.le_trans g4 f4,λc hc=>(f5 c (g2 c hc)).trans (g5 c hc),λc hc=>(f6 c (.inl hc)).trans (g6 c hc),hj'⟩;rcases f2 c hc with h|h
  ·exact g3 c h
  ·exact .inr λhb=>h (.inl hb)
 have h0:J' (some 0) F (λ_=>False) W:=by subst hJe;exact⟨λb h=>h.elim,λ_ h=>h,λ_ h=> .inl h,Nat.le_refl _,λ_ _=>rfl,λ_ _=>rfl,hJ _ _ _ _ _ _ _ hj ⟨rfl,rfl,rfl,Nat.le_refl _,λ_ _ _=>rfl,λ_ _=>rfl,λ_ h=>h,λ_ h=> .inl h,λb h=>h.elim .inl False.elim,hs.fb,λb h=>h.elim (hB b) False.elim⟩⟩
 have hlen:(args.map (DV.reY l)).length=args.length:=List.length_map _;have pM:m0 fn.ntmps J' (⟨aQ 0 (args.map (DV.reY l)),[]⟩,some 0) {tmps:=cv++Array.replicate (fn.ntmps-cv.size) undef,defers:=[]} W:=
  ⟨F,λ_=>False,K,none_,λb h1 _=>hK b h1,hs,Bq hcv (by rw[hlen];exact hn),by have h1:=hcv.1;simp at h1;simp;omega,trivial,λb h=>h.elim,h0⟩
 refine callsIn_of_wp_marks (F:=Fence.wide) (n:=0) hf hb trivial (wpIn_mono (show c.wpIn Fence.wide 0 P _ _ W from iz hC hJ' hR' d.code c _ _ _ W hc (h l) pM) ?_);have key:∀(s:SI) (a:Act) (w':World),m0 fn.ntmps J' s a w'->((aW s.1 d.res).1/\apa (aW s.1 d.res).2 s.2 ys.length)->LeavesInM Fence.wide 0 P fn a.tmps (λe W'=>∃b F',e= .returned (.bool b)/\(∀c,F c->F' c)/\(∀c,F' c->F c\/¬B c)/\(∀c,F' c->c<W'.heap.size)/\W.heap.size<=W'.heap.size/\
  (∀c,F c->W'.heap[c]? =W.heap[c]?)/\(∀c,B c->W'.heap[c]? =W.heap[c]?)/\J (if b then some ys.length else none) F' B W') a.defers .returning w':=by
  rintro s ⟨tm,ds⟩ w' hx hq
  refine Wa hJ' (λw'' jg=> ?_) ds w' hx;obtain⟨F',B',K',σ,hK,um,Zd,hN',Nu,hB',hj'⟩:=jg;obtain⟨v,hv,Cx⟩:=Ie um Zd hr hq.1;obtain⟨b,hb1,hb2⟩:∃b,(aW s.1 d.res).2= .bool b/\s.2=if b then some ys.length else none:=by
   have:=hq.2;generalize (aW s.1 d.res).2=r at this|-;cases r with
   |bool b=>cases b<;>exact⟨_,rfl,this⟩
   |_=>exact this.elim
  rw[hb1]at Cx;have hvb:=Cx.iO;subst hvb;subst hJe;obtain⟨g1,g2,g3,g4,g5,g6,g7⟩:=hj';rw[hb2]at g7;exact⟨_,hv,b,F',rfl,g2,g3,um.fb,g4,g5,g6,hJ _ _ _ _ _ _ _ g7 ⟨rfl,rfl,rfl,Nat.le_refl _,λ_ _ _=>rfl,λ_ _=>rfl,λ_ h=>h,λ_ h=> .inl h,λb h=> .inl (.inl h),um.fb,λb h=>Nat.lt_of_lt_of_le (hB b h) g4⟩⟩
 intro e a w' hq;cases e with
 |normal=>obtain⟨s,hc,h1⟩:=hq;exact key s a w' hc h1
 |ret=>obtain⟨s,hc,h1⟩:=hq;exact key s a w' hc h1
 |exit id=>obtain⟨s,hc,h0⟩:=hq;exact h0.elim
 |goto l=>exact hq.elim
 |panic c=>exact hq.elim
 |outgrown=>exact hq.elim
theorem OkI.mk [Inhabited Env]{ps hs is}{f}{s}{d:ay}{n}(h1:uU P ps)(h2:uV P hs)(h3:VY P is)(hm:qe P f (n+1) d=true)(KD:d.res=[])
 (h:∀caps l,(s caps).1->caps.length=n/\ju (jL.ofI ps hs is) l (s caps).2 d.code (ahm (s caps).2.length) (⟨(0,.Qm l)::aQ 1 (jy caps).1,(jy caps).2⟩,some 0)):OkI P f s:=by
 intro a ha;have e:=(h a 0 ha).1;exact ahn (PT h1 h2 h3) (by rw[e];exact hm) KD λl=>(h a l ha).2
end
end Go.Nk
set_option linter.all false
namespace Go.Nk
section
variable {C:jL} {l:Nat} {xs:List (List DV)} {Q:cq->SI->Prop} {s:DS} {k:Option Nat}
theorem ahp:ju C l xs .skip Q (s,k)=Q .normal (s,k):=rfl
theorem al3{dl:List ae}:ju C l xs (.ops false dl) Q (s,k)=mH C l xs dl (s,k) (Q .normal):=rfl
theorem ahq{dl:List ae}:ju C l xs (.ops true dl) Q (s,k)=lG C dl s (λs'=>Q .normal (s',k)):=rfl
theorem ahr{dl:List (Nat×ae)}:ju C l xs (.MQ dl) Q (s,k)=lG C (dl.map (·.2)) s (λs'=>Q .normal (s',k)):=rfl
theorem al4{a b:au}:ju C l xs (.seq a b) Q (s,k)=ju C l xs a (Iy (ju C l xs b Q) Q) (s,k):=rfl
theorem ada{id:Nat}{c:au}:ju C l xs (.block id c) Q (s,k)=ju C l xs c (uH id Q) (s,k):=rfl
theorem ahs{id:Nat}:ju C l xs (.exit id) Q (s,k)=Q (.exit id) (s,k):=rfl
theorem al5:ju C l xs .ret Q (s,k)=Q .ret (s,k):=rfl
theorem KX{c:DA}{a b}{t}(h:c.ev s.fr= .bool t):ju C l xs (.cond c a b) Q (s,k)=ju C l xs (if t then a else b) Q (s,k):=by simp only[ju,h];cases t<;>simp
def adb{c:DA}{a b}(h:c.ev s.fr= .bool true):=show ju C l xs (.cond c a b) Q (s,k)=_ from KX h
def ade{c:DA}{a b}(h:c.ev s.fr= .bool false):=show ju C l xs (.cond c a b) Q (s,k)=_ from KX h
theorem acn{c:DA}{a b}{t}(h:c.ev s.fr= .bool t)(ht:t=true->ju C l xs a Q (s,k))(hf:t=false->ju C l xs b Q (s,k)):ju C l xs (.cond c a b) Q (s,k):=by
 rw[KX h];cases t
 ·exact hf rfl
 ·exact ht rfl
theorem Wc{next:SI->Prop}:Iy next Q .normal (s,k)=next (s,k):=rfl
theorem adf{next:SI->Prop}{id:Nat}:Iy next Q (.exit id) (s,k)=Q (.exit id) (s,k):=rfl
theorem aht{next:SI->Prop}:Iy next Q .ret (s,k)=Q .ret (s,k):=rfl
theorem MV{id:Nat}:uH id Q .normal (s,k)=Q .normal (s,k):=rfl
theorem Sb{id i:Nat}:uH id Q (.exit i) (s,k)=if i=id then Q .normal (s,k)else Q (.exit i) (s,k):=rfl
theorem Wd{id:Nat}:uH id Q .ret (s,k)=Q .ret (s,k):=rfl
theorem Z2{m:Nat}:ahm m .normal (s,k)=(k=none\/k=some m):=rfl
theorem al6{m:Nat}:ahm m .ret (s,k)=(k=none\/k=some m):=rfl
theorem ahu{m id:Nat}:ahm m (.exit id) (s,k)=False:=rfl
theorem ahv{K:SI->Prop}:mH C l xs [] (s,k) K=K (s,k):=rfl
theorem adg{dst:Option Nat}{op:aS}{r:List ae}{K:SI->Prop}:mH C l xs (⟨dst,op,none⟩::r) (s,k) K=uG C l xs dst op (s,k) (λs'=>mH C l xs r s' K):=rfl
theorem Z3{dst}{op}{g}{b}{r}{K}(h:get g s.fr= .bool b):
 mH C l xs (⟨dst,op,some (g,b)⟩::r) (s,k) K=uG C l xs dst op (s,k) (λs'=>mH C l xs r s' K):=by
 simp only[mH,FU,h,if_true]
theorem Z4{dst}{op}{g}{b}{r}{K}(h:get g s.fr= .bool (!b)):
 mH C l xs (⟨dst,op,some (g,b)⟩::r) (s,k) K=mH C l xs r (s.put dst ⟨True,.cy [],s.hp⟩,k) K:=by
 simp only[mH,FU,h];cases b<;>simp
theorem Z5{dst}{op}{g}{b}{r}{K}(h:get g s.fr= .cy []):
 mH C l xs (⟨dst,op,some (g,b)⟩::r) (s,k) K=mH C l xs r (s.put dst ⟨True,.cy [],s.hp⟩,k) K:=by
 simp only[mH,FU,h]
theorem VG{dst}{op}{g}{b}{r}{K}{t}(_:get g s.fr= .bool t)
 (ht:t=true->mH C l xs (⟨dst,op,some (g,b)⟩::r) (s,k) K) (hf:t=false->mH C l xs (⟨dst,op,some (g,b)⟩::r) (s,k) K):mH C l xs (⟨dst,op,some (g,b)⟩::r) (s,k) K:=by
 cases t
 ·exact hf rfl
 ·exact ht rfl
def aew:aS->Bool
 | .qt .. =>false
 | .v7 .. =>false
 |_=>true
theorem ahw{dst}{op}{K}(h:(aew op&&true)=true):uG C l xs dst op (s,k) K=((aC C op s).pre/\K (s.put dst (aC C op s),k)):=by
 have e:v9 l s.fr op=none:=by cases op<;>first|rfl|simp[aew]at h
 cases op<;>first|(simp only[uG,e];done)|(simp[aew]at h;done)
theorem Z6{dst}{f}{args:List DA}{n}{K}:
 uG C l xs dst (.v7 f args) (s,some n) K=((C.w f ((args.map (·.ev s.fr)).map DV.unY)).1/\(args.map (·.ev s.fr)).all (Mb l)=true/\
  (∀i y,(C.w f ((args.map (·.ev s.fr)).map DV.unY)).2[i]? =some y->xs[n+i]? =some y)/\
  K (s.put dst ⟨True,.bool true,s.hp⟩,some (n+(C.w f ((args.map (·.ev s.fr)).map DV.unY)).2.length))/\K (s.put dst ⟨True,.bool false,s.hp⟩,none)):=by
 have e:v9 l s.fr (.v7 f args)=none:=rfl;simp only[uG,e,Option.some.injEq,exists_eq_left']
theorem ahx{dst}{g:DA}{args:List DA}{n}{K}(h:g.ev s.fr= .Qm l):
 uG C l xs dst (.qt g args) (s,some n) K=(xs[n]? =some (args.map (·.ev s.fr))/\(args.map (·.ev s.fr)).all aky=true/\K (s.put dst ⟨True,.bool true,s.hp⟩,some (n+1))/\K (s.put dst ⟨True,.bool false,s.hp⟩,none)):=by
 have e:v9 l s.fr (.qt g args)=some (args.map (·.ev s.fr)):=by simp[v9,h]
 simp only[uG,e,Option.some.injEq,exists_eq_left']
theorem KY{C}{l}{xs}:∀(c:au) (Q Q':cq->SI->Prop) (s:SI),(∀e s,Q e s->Q' e s)->ju C l xs c Q s->ju C l xs c Q' s:=by
 have hd:∀(l:List ae) (s:DS) (K K':DS->Prop),(∀s,K s->K' s)->lG C l s K->lG C l s K':=λl s K K' h hk=>qv (h0:=0) (.ops false l) (λ_=>K) (λ_=>K') s (λ_=>h) hk;have hr:∀(dst:Option Nat) (op:aS) (s:SI) (K K':SI->Prop),(∀s,K s->K' s)->uG C l xs dst op s K->uG C l xs dst op s K':=by
  intro dst op s K K' h hk;unfold uG at hk|-;split at hk
  ·obtain⟨n,h1,h2,h3,h4,h5⟩:=hk;exact⟨n,h1,h2,h3,h _ h4,h _ h5⟩
  ·cases op with
   |v7 f args=>obtain⟨n,h1,h2,h3,h4,h5,h6⟩:=hk;exact⟨n,h1,h2,h3,h4,h _ h5,h _ h6⟩
   |_=>exact⟨hk.1,h _ hk.2⟩
 have hdI:∀(dl:List ae) (s:SI) (K K':SI->Prop),(∀s,K s->K' s)->mH C l xs dl s K->mH C l xs dl s K':=by
  intro dl;induction dl with
  |nil=>intro s K K' h hk;exact h _ hk
  |cons o r ih=>
   intro s K K' h hk;unfold mH FU at hk|-;split at hk
   ·exact hr _ _ _ _ _ (λs=>ih s _ _ h) hk
   ·split at hk
    ·split at hk
     ·rename_i e;rw[if_pos e];exact hr _ _ _ _ _ (λs=>ih s _ _ h) hk
     ·rename_i e;rw[if_neg e];exact ih _ _ _ h hk
    ·exact ih _ _ _ h hk
    ·exact hk.elim
 intro c;induction c with
 |skip=>intro Q Q' s h hq;exact h _ _ hq
 |ops d dl=>intro Q Q' s h hq;cases d with
  |false=>exact hdI dl s _ _ (h .normal) hq
  |true=>exact hd dl s.1 _ _ (λs'=>h .normal (s',s.2)) hq
 |MQ dl=>intro Q Q' s h hq;exact hd _ s.1 _ _ (λs'=>h .normal (s',s.2)) hq
 |seq a b iha ihb=>
  intro Q Q' s h hq;refine iha _ _ s (λe s' hh=> ?_) hq;cases e with
  |normal=>exact ihb _ _ s' h hh
  |exit id=>exact h _ _ hh
  |ret=>exact h _ _ hh
 |cond x a b iha ihb=>
  intro Q Q' s h hq;unfold ju at hq|-;split at hq
  ·exact⟨λe=>iha _ _ s h (hq.1 e),λe=>ihb _ _ s h (hq.2 e)⟩
  ·exact⟨iha _ _ s h hq.1,ihb _ _ s h hq.2⟩
  ·exact hq.elim
 |block id c ih=>
  intro Q Q' s h hq;refine ih _ _ s (λe s' hh=> ?_) hq;cases e with
  |normal=>exact h _ _ hh
  |exit k=>
   simp only[uH]at hh|-;split at hh
   ·rename_i e;rw[if_pos e];exact h _ _ hh
   ·rename_i e;rw[if_neg e];exact h _ _ hh
  |ret=>exact h _ _ hh
 |loop live m c ih=>
  intro Q Q' s h hq;obtain⟨I,μ,h2,h3⟩:=hq;refine⟨I,μ,h2,λs' um=>ih _ _ s' (λe Tf hh=> ?_) (h3 s' um)⟩;cases e with
  |normal=>exact hh
  |exit id=>exact h _ _ hh
  |ret=>exact h _ _ hh
 |exit id=>intro Q Q' s h hq;exact h _ _ hq
 |ret=>intro Q Q' s h hq;exact h _ _ hq
 |MR gg dl=>intro Q Q' s h hq;exact hq.elim
 |H7 t off z c ih=>intro Q Q' s h hq;exact hq.elim
 |scope c ih=>intro Q Q' s h hq;exact hq
 |qu live m g ps Ib c ihA ih=>intro Q Q' s h hq;exact hq.elim
 |rsv c ih=>intro Q Q' s h hq;exact hq.elim
 |bad=>intro Q Q' s h hq;exact hq.elim
 |cut live m c ih=>intro Q Q' s h hq;exact hq.elim
theorem ahy{live}{m}{c}{α}(st:α->SI)(Inv:α->Prop)(μ:α->Nat)(a0:α)
 (hs:(s.cut live m,k)=st a0) (hi:Inv a0)
 (step:∀a,Inv a->ju C l xs c (Iy (λs'=>∃a',(s'.1.cut live m,s'.2)=st a'/\Inv a'/\μ a'<μ a) Q) (st a)):ju C l xs (.loop live m c) Q (s,k):=by
 classical
 let has:SI->Nat->Prop:=λs n=>∃a,s=st a/\Inv a/\μ a=n;have yS:∀s:SI,∃k,(∃n,has s n)->has s k/\∀m,has s m->k<=m:=by
  intro s;by_cases hx:∃n,has s n
  ·obtain⟨n,hn⟩:=hx;induction n using Nat.strongRecOn with
   |_ n ih=>
    by_cases hy:∃m,m<n/\has s m
    ·obtain⟨m,h1,h2⟩:=hy;exact ih m h1 h2
    ·exact⟨n,λ_=>⟨hn,λm hm=>by
      rcases Nat.lt_or_ge m n with h|h
      ·exact absurd ⟨m,h,hm⟩ hy
      ·exact h⟩⟩
  ·exact⟨0,λh=>absurd h hx⟩
 obtain⟨least,yS⟩:=Classical.axiomOfChoice yS;refine⟨λs=>∃n,has s n,least,⟨μ a0,a0,hs,hi,rfl⟩,λs' um=> ?_⟩;have hl:has s' (least s'):=(yS s' um).1;obtain⟨a,rfl,h1,h2⟩:=hl;refine KY c _ _ _ (λe Tf hh=> ?_) (step a h1);cases e with
 |normal=>
  obtain⟨a',e1,e2,e3⟩:=hh;have hx:∃n,has (Tf.1.cut live m,Tf.2) n:=⟨μ a',a',e1,e2,rfl⟩;refine⟨hx,?_⟩;have:least (Tf.1.cut live m,Tf.2)<=μ a':=(yS _ hx).2 _ ⟨a',e1,e2,rfl⟩;omega
 |exit id=>exact hh
 |ret=>exact hh
theorem TF{live:List Nat}{m:Option Nat}{c:au}{α σ:Type}(li:List α)(st:Nat->σ->SI)(R:Nat->List α->σ->Prop)(a0:σ)
 (hs:(s.cut live m,k)=st 0 a0) (hi:R 0 li a0)
 (step:∀k x r a,k<li.length->li[k]? =some x->li.drop k=x::r->R k (x::r) a->ju C l xs c (Iy (λs'=>∃a',(s'.1.cut live m,s'.2)=st (k+1) a'/\R (k+1) r a') Q) (st k a))
 (last:∀k a,k=li.length->R k [] a->ju C l xs c (Iy (λ_=>False) Q) (st k a)):ju C l xs (.loop live m c) Q (s,k):=by
 refine ahy (λx:Nat×σ=>st x.1 x.2) (λx=>x.1<=li.length/\R x.1 (li.drop x.1) x.2) (λx=>li.length-x.1) (0,a0) hs ⟨Nat.zero_le _,hi⟩ λx hx=> ?_;obtain⟨k,a⟩:=x;obtain⟨hk,hr⟩:=hx;simp only at hk hr|-;by_cases d:k<li.length
 ·obtain⟨x,e1,e2⟩:=dP li d;rw[e2]at hr;refine KY c _ _ _ (λe s' hh=> ?_) (step k x _ a d e1 e2 hr);cases e with
  |normal=>
   obtain⟨a',h1,h2⟩:=hh;exact⟨(k+1,a'),h1,⟨d,h2⟩,by simp only;omega⟩
  |exit id=>exact hh
  |ret=>exact hh
 ·have e:k=li.length:=by omega
  rw[e,List.drop_length,<-e]at hr;refine KY c _ _ _ (λe s' hh=> ?_) (last k a e hr);cases e with
  |normal=>exact hh.elim
  |exit id=>exact hh
  |ret=>exact hh
end
section
variable {C:jL} {h0:Nat} {Q:cq->DS->Prop} {s:DS}
theorem Cd{live:List Nat}{m:Option Nat}{g:DA}{ps:List Nat}{Ib c:au}{f:FuncId}{caps:List DV}{ys:List (List DV)}{α σ:Type}(xs:List α)(enc:α->List DV)(hpO:Nat->σ->List ak)(R:Nat->List α->σ->Prop)(a0:σ)(fr0:List (Nat×DV))
 (hm:match m with|some k=>h0<=k|none=>True) (hg:g.ev s.fr= .clo f caps) (hc:caps.all DV.aY=true) (hi:C.i f caps=(True,ys)) (hys:ys=xs.map enc)
 (hs:s.cut live m=⟨fr0,hpO 0 a0⟩) (h0':R 0 xs a0)
 (step:∀k x r a,xs[k]? =some x->xs.drop k=x::r->R k (x::r) a->(enc x).length=ps.length/\
  gO C (hpO k a).length Ib (cq.only λs1=>gO C s1.hp.length c (cq.then (λs'=>∃a',(s'.cut [] m).hp=hpO (k+1) a'/\R (k+1) r a') (λe s'=>Q e ⟨fr0,s'.hp⟩)) s1) ⟨ps.zip (enc x)++fr0,hpO k a⟩)
 (last:∀k a,k=xs.length->R k [] a->Q .normal ⟨fr0,hpO k a⟩):gO C h0 (.qu live m g ps Ib c) Q s:=by
 subst hys;refine⟨hm,?_⟩;simp only[hg,Qo _ _ hc,hi,true_and,hs];refine⟨λk hp=>k<=xs.length/\∃a,hp=hpO k a/\R k (xs.drop k) a,⟨Nat.zero_le _,a0,rfl,h0'⟩,?_,?_⟩
 ·rintro k y hp ⟨hk,a,rfl,hr⟩ hy
  rw[List.getElem?_map]at hy;cases hx:xs[k]? with
  |none=>simp[hx]at hy
  |some x=>
   simp only[hx,Option.map_some,Option.some.injEq]at hy;subst hy;have fM:k<xs.length:=(List.getElem?_eq_some_iff.1 hx).1;have e2:xs.drop k=x::xs.drop (k+1):=by rw[List.drop_eq_getElem_cons fM,(List.getElem?_eq_some_iff.1 hx).2]
   rw[e2]at hr;obtain⟨h1,h2⟩:=step k x _ a hx e2 hr;refine⟨h1,qv Ib _ _ _ (λe s1 hA=> ?_) h2⟩;cases e with
   |exit id=>exact hA
   |ret=>exact hA
   |normal=>
   refine qv c _ _ _ (λe s' hh=> ?_) hA;cases e with
   |normal=>obtain⟨a',h3,h4⟩:=hh;exact⟨fM,a',h3,h4⟩
   |exit id=>exact hh
   |ret=>exact hh
 ·rintro hp ⟨_,a,rfl,hr⟩
  rw[List.length_map]at hr|-;rw[List.drop_length]at hr;exact last _ a rfl hr
theorem wc{next:DS->Prop}:cq.only next .normal s=next s:=rfl
theorem aF.zN [Inhabited Env]{P}{ps hs is}{g}{d:ay}{N}{α}{args:α->List DV}{f:α->Prop×DV}(h1:uU P ps)(h2:uV P hs)(h3:VY P is)(hm:qe P g N d=true)
 (hN:∀a,(args a).length=N) (k:∀a,(f a).1->gO (jL.ofI ps hs is) 0 d.code (yH d.res (f a).2) ⟨aQ 0 (args a),[]⟩):aF P g (aeR args f):=by
 intro l hp;unfold aeR at hp|-;split at hp
 ·rename_i h;rw[dif_pos h];have hx:=h.choose_spec;have:=k _ hp;generalize h.choose=a at*;subst hx;exact KF (PT h1 h2 h3) (by rw[hN];exact hm) this
 ·exact hp.elim
theorem g9.azR [Inhabited Env]{P}{ps hs is}{fn}{d:ay}{N}{α}{r:α->List DV->List ak->Prop}{f:α->Prop×DV}{out:α->List ak->List ak}(h1:uU P ps)(h2:uV P hs)(h3:VY P is)(hm:qe P fn N d=true)
 (hN:∀x a hp,r x a hp->a.length=N) (k:∀x a hp,r x a hp->(f x).1->gO (jL.ofI ps hs is) hp.length d.code (agb d.res (f x).2 hp (out x hp)) ⟨aQ 0 a,hp⟩):g9 P fn (m7 r f out):=by
 intro a hp bG;unfold m7 at bG|-;split at bG
 ·rename_i hx;rw[dif_pos hx];have hy:=hx.choose_spec;generalize hx.choose=y at hy bG|-;exact FE (PT h1 h2 h3) (by rw[hN _ _ _ hy];exact hm) (k _ _ _ hy bG)
 ·exact bG.elim
theorem aF.azS [Inhabited Env]{P}{ps hs is}{g}{d:ay}{α β}{e:α->DV}{e':β->DV}{f:α->β->Prop×DV}(h1:uU P ps)(h2:uV P hs)(h3:VY P is)(hm:qe P g 2 d=true)
 (k:∀a b,(f a b).1->gO (jL.ofI ps hs is) 0 d.code (yH d.res (f a b).2) ⟨aQ 0 [e a,e' b],[]⟩):aF P g (b5 e e' f):=by
 intro l hp;unfold b5 at hp|-;split at hp
 ·rename_i h;rw[dif_pos h];have hx:=h.choose_spec;have:=k _ _ hp;generalize h.choose=a at*;subst hx;exact KF (PT h1 h2 h3) hm this
 ·exact hp.elim
open Classical in
noncomputable def Md{α:Type}(args:α->List DV)(f:α->Prop×List (List DV)):List DV->Prop×List (List DV):=λl=>
 if h:∃a,l=args a then f h.choose else(False,[])
theorem Z7{α}{args:α->List DV}(h:GK args)(f:α->Prop×List (List DV))(a:α):Md args f (args a)=f a:=by unfold Md;have hx:∃b,args a=args b:=⟨a,rfl⟩;rw[dif_pos hx];have hy:=hx.choose_spec;generalize hx.choose=x at hy|-;rw[h _ _ hy]
theorem OkI.mkA [Inhabited Env]{P}{ps hs is}{f}{d:ay}{n}{α}{args:α->List DV}{s:α->Prop×List (List DV)}(h1:uU P ps)(h2:uV P hs)(h3:VY P is)(hm:qe P f (n+1) d=true)(KD:d.res=[])
 (hN:∀a,(args a).length=n) (k:∀a l,(s a).1->ju (jL.ofI ps hs is) l (s a).2 d.code (ahm (s a).2.length) (⟨(0,.Qm l)::aQ 1 (args a),[]⟩,some 0)) (hA:∀a,(args a).all DV.aY=true:=by exactλ_=>rfl):OkI P f (Md args s):=by
 refine OkI.mk h1 h2 h3 hm KD λcaps l hp=> ?_;unfold Md at hp|-;split at hp
 ·rename_i h;rw[dif_pos h];have hx:=h.choose_spec;have:=k _ l hp;have hAA:=hA h.choose;generalize h.choose=a at*;subst hx;rw[TC _ hAA];exact⟨hN a,this⟩
 ·exact hp.elim
theorem OkW.mkA [Inhabited Env]{P}{ps hs is ws}{f}{d:ay}{n}{α}{args:α->List DV}{s:α->Prop×List (List DV)}(h1:uU P ps)(h2:uV P hs)(h3:VY P is)(h4:ar9 P ws)(hm:qe P f n d=true)
 (hN:∀a,(args a).length=n) (k:∀a l,(s a).1->ju (jL.ofW ps hs is ws) l (s a).2 d.code (al2 d.res (s a).2.length) (⟨aQ 0 ((args a).map (DV.reY l)),[]⟩,some 0)):OkW P f (Md args s):=by
 intro l hp;unfold Md at hp|-;split at hp
 ·rename_i h;rw[dif_pos h];have hx:=h.choose_spec;have:=λl=>k _ l hp;generalize h.choose=a at*;subst hx;exact aho (ak5 h1 h2 h3 h4) (by rw[hN a];exact hm) this
 ·exact hp.elim
theorem Z8{rs:List DR}{m:Nat}{s:DS}{k:Option Nat}:al2 rs m .normal (s,k)=((aW s rs).1/\apa (aW s rs).2 k m):=rfl
theorem al7{rs:List DR}{m:Nat}{s:DS}{k:Option Nat}:al2 rs m .ret (s,k)=((aW s rs).1/\apa (aW s rs).2 k m):=rfl
theorem ahz{rs}{m id}{s}{k}:al2 rs m (.exit id) (s,k)=False:=rfl
def lim(N:Nat)(s:List DV->Prop×DV):List DV->Prop×DV:=λa=>((s a).1/\ta a<N,(s a).2)
theorem VB(N:Nat)(s:List DV->Prop×DV)(a:List DV):lim N s a=((s a).1/\ta a<N,(s a).2):=rfl
theorem aF.rec [Inhabited Env]{P}{f}{s}(h:∀N,aF P f (lim N s)->aF P f (lim (N+1) s)):aF P f s:=by
 have key:∀N,aF P f (lim N s):=by
  intro N;induction N with
  |zero=>exactλa ha=>absurd ha.2 (Nat.not_lt_zero _)
  |succ N ih=>exact h N ih
 exactλa ha=>key (ta a+1) a ⟨ha,Nat.lt_succ_self _⟩
theorem Ki{α}{e:α->DV}(N)(f:α->Prop×DV):lim N (bB e f)=bB e λx=>((f x).1/\ta [e x]<N,(f x).2):=by
 funext a;unfold lim bB;split
 ·rename_i h;have hx:=h.choose_spec;generalize h.choose=x at hx|-;rw[hx]
 ·simp
theorem agA{α β}{e:α->DV}{e':β->DV}(N)(f:α->β->Prop×DV):lim N (b5 e e' f)=b5 e e' λx y=>((f x y).1/\ta [e x,e' y]<N,(f x y).2):=by
 funext a;unfold lim b5;split
 ·rename_i h;have hx:=h.choose_spec;generalize h.choose=x at hx|-;rw[hx]
 ·simp
def asR(N:Nat)(s:List DV->Prop×List (List DV)):List DV->Prop×List (List DV):=λa=>((s a).1/\ta a<N,(s a).2)
theorem OkW.rec [Inhabited Env]{P}{f}{s}(h:∀N,OkW P f (asR N s)->OkW P f (asR (N+1) s)):OkW P f s:=by
 have key:∀N,OkW P f (asR N s):=by
  intro N;induction N with
  |zero=>exactλa ha=>absurd ha.2 (Nat.not_lt_zero _)
  |succ N ih=>exact h N ih
 exactλa ha=>key (ta a+1) a ⟨ha,Nat.lt_succ_self _⟩
def asS(N:Nat)(s:List DV->List ak->sj):List DV->List ak->sj:=λa hp=>⟨(s a hp).pre/\ta a<N,(s a hp).val,(s a hp).hp⟩
theorem g9.rec [Inhabited Env]{P}{f}{s}(h:∀N,g9 P f (asS N s)->g9 P f (asS (N+1) s)):g9 P f s:=by
 have key:∀N,g9 P f (asS N s):=by
  intro N;induction N with
  |zero=>exactλa hp ha=>absurd ha.2 (Nat.not_lt_zero _)
  |succ N ih=>exact h N ih
 exactλa hp ha=>key (ta a+1) a hp ⟨ha,Nat.lt_succ_self _⟩
theorem Z9(ps hs is)(f:FuncId)(a:List DV):(jL.ofI ps hs is).p f a=pOf ps f a:=rfl
theorem aqy(ps hs is)(f)(a)(hp):(jL.ofI ps hs is).h f a hp=hOf hs f a hp:=rfl
end
def rI:=And.intro @ahp (And.intro @al3 (And.intro @ahq (And.intro @ahr (And.intro @al4 (And.intro @ada (And.intro @ahs (And.intro @al5 (And.intro @adb (And.intro @ade (And.intro @Wc (And.intro @adf (And.intro @aht (And.intro @MV (And.intro @Sb (And.intro @Wd (And.intro @Z2 (And.intro @al6 (And.intro @ahu (And.intro @ahv (And.intro @adg (And.intro @Z3 (And.intro @Z4 (And.intro @Z5 (And.intro @ahw (And.intro @ahx (And.intro @Z6 (And.intro @Z8 (And.intro @al7 @ahz))))))))))))))))))))))))))))
end Go.Nk
set_option linter.all false
namespace Go.Nk
end Go.Nk

/- Every operation does what the data level says. -/
import Derived.Test.YtcokmopocppmiaaGreatNkN
import Derived.Laws.LoneSync
set_option linter.all false
namespace Go.Nk
open Go.RowKit
section
variable {P:Program} {K F F':Nat->Prop} {σ σ':Nat->Option Nat} {hp cJ:List ak} {w w':World} {fr:List (Nat×DV)} {a:Act} {o:Oper} {C:jL}
theorem KI{xs:Array Operand}{y}(h:gp xs.toList [y]=true):∃x,xs= #[x]/\cF x y=true:=by
 obtain⟨l⟩:=xs;match l,h with
 |[x],h=>exact⟨x,rfl,by simpa[gp]using h⟩
 |[],h=>simp[gp]at h
 |_::_::_,h=>simp[gp]at h
theorem x8{xs:Array Operand}{y z}(h:gp xs.toList [y,z]=true):∃x u,xs= #[x,u]/\cF x y=true/\cF u z=true:=by
 obtain⟨l⟩:=xs;match l,h with
 |[x,u],h=>exact⟨x,u,rfl,by simpa[gp]using h⟩
 |[],h=>simp[gp]at h
 |[_],h=>simp[gp]at h
 |_::_::_::_,h=>simp[gp]at h
theorem y7{α}{ts:Array α}{t:α}(h:ts.toList=[t]):ts= #[t]:=by apply Array.ext';simpa using h
theorem FG{α}{ts:Array α}{t u:α}(h:ts.toList=[t,u]):ts= #[t,u]:=by apply Array.ext';simpa using h
theorem KJ{h L i j}{v}(hv:aB F σ hp w (.ptr h L i j) v)(ha:alive hp h L):∃ob g,hp[h]? =some ob/\ob.k≠ .dead/\ob.es.length=L/\σ h=some g/\v= .pointer (some ⟨g,i*ob.z+j,none⟩):=by
 obtain⟨hl,cD⟩:=hv.B7;unfold alive at ha;cases WL:hp[h]? with
 |none=>simp[WL]at ha
 |some ob=>
  simp only[WL]at ha;obtain⟨g,hg,e⟩:=(cD ob WL).2 ha.1 ha.2;exact⟨ob,g,rfl,ha.1,ha.2,hg,e⟩
theorem Tk{h L i j}{ob:ak}{g}(cD:hp[h]? =some ob)(hL:ob.es.length=L)(hg:σ h=some g)(k):aB F σ hp w (.ptr h L i (j+k)) (.pointer (some ⟨g,i*ob.z+j+k,none⟩)):=by refine .ptr _ _ _ _ _ rfl (ck cD) λo ho=> ?_;rw[cD]at ho;injection ho with ho;subst ho;exact⟨by omega,λ_ _=>⟨g,hg,by rw[Nat.add_assoc]⟩⟩
def Sound [Inhabited Env](P:Program)(K F:Nat->Prop)(σ:Nat->Option Nat)(hp:List ak)(w:World)(fr:List (Nat×DV))(a:Act)(C:jL)(o:Oper)(d:aS):Prop:=
 (aw C d ⟨fr,hp⟩).pre->Qc P o a w (λv w'=>dM K F σ hp w (aw C d ⟨fr,hp⟩).val (aw C d ⟨fr,hp⟩).hp v w')
theorem aB.ag6{d:DV}{v}(hb:d.aY=true)(h:aB F σ hp w d v):bY F w d v:=by cases h<;>first|assumption|(simp[DV.aY]at hb)
theorem Tl{gh}{k}{ob}{d}{v}(h1:hp[k]? =some ob)(h2:gh[k]? =some ob)(hb:V3 k d=true)(h:aB F σ hp w d v):aB F σ gh w d v:=by
 unfold V3 at hb;rw[Bool.or_eq_true]at hb;rcases hb with hb|hb
 ·exact .aN (h.ag6 hb)
 ·split at hb
  ·rename_i h' L i j;have e:h'=k:=by simpa using hb
   subst e;cases h with
   |aN h=>exact .aN h
   |ptr _ _ _ _ _ q1 q2 q3=>
    exact .ptr _ _ _ _ _ q1 (List.getElem?_eq_some_iff.1 h2).1 λo ho=>q3 o (by rw[h1];rw[h2]at ho;exact ho)
  ·cases hb
theorem Tm{gh}{k}{ob}{d}{v}(h1:hp[k]? =some ob)(h2:gh[k]? =some ob)(hb:V4 k d=true)(h:aB F σ hp w d v):aB F σ gh w d v:=by
 unfold V4 at hb;rw[Bool.or_eq_true]at hb;rcases hb with hb|hb
 ·exact Tl h1 h2 hb h
 ·split at hb
  ·rename_i cs;cases h with
   |aN h=>exact .aN h
   |agg _ vs hl vv hv hr=>exact .agg _ vs hl vv hv λj d hd=>Tl h1 h2 (List.all_eq_true.1 hb d (List.mem_of_getElem? hd)) (hr j d hd)
  ·cases hb
theorem ZF{gh}{k}{ob}{d}{v}(h1:hp[k]? =some ob)(h2:gh[k]? =some ob)(hb:aeY k d=true)(h:aB F σ hp w d v):aB F σ gh w d v:=by
 unfold aeY at hb;rw[Bool.or_eq_true]at hb;rcases hb with hb|hb
 ·exact Tm h1 h2 hb h
 ·split at hb
  ·rename_i f cs;cases h with
   |aN h=>exact .aN h
   |zY _ _ vs hl vv hv hr=>exact .zY _ _ vs hl vv hv λj d hd=>Tm h1 h2 (List.all_eq_true.1 hb d (List.mem_of_getElem? hd)) (hr j d hd)
  ·cases hb
theorem alz{σ2}{gh}{d}{v}(hb:aoQ d=true)(h:aB F σ hp w d v):aB F σ2 gh w d v:=by
 unfold aoQ at hb;rw[Bool.or_eq_true]at hb;rcases hb with hb|hb
 ·exact .aN (h.ag6 hb)
 ·split at hb
  ·rename_i cs;cases h with
   |aN h=>exact .aN h
   |agg _ vs hl vv hv hr=>exact .agg _ vs hl vv hv λj d hd=> .aN ((hr j d hd).ag6 (List.all_eq_true.1 hb d (List.mem_of_getElem? hd)))
  ·cases hb
def Oth(K:Nat->Prop)(σ:Nat->Option Nat)(hp:List ak)(k b:Nat):Prop:=K b\/∃(h:Nat) (o:ak),hp[h]? =some o/\h≠k/\o.k.mut/\σ h=some b
theorem ZG [Inhabited Env](hs:bF K F σ hp w){k}{ob:ak}(cD:hp[k]? =some ob)(hk:ob.k= .loc)(acS:∀r∈ob.es,∀d∈r,d.aY=true):
 bF (Oth K σ hp k) F σ (List.replicate k ⟨.dead,0,[]⟩++[ob]) w:=by
 have lH:∀h:Nat,∀o':ak,(List.replicate k (⟨.dead,0,[]⟩:ak)++[ob])[h]? =some o'->(h<k/\o'=⟨.dead,0,[]⟩)\/(h=k/\o'=ob):=by
  intro h o' hh;rcases Nat.lt_trichotomy h k with hl|hl|hl
  ·rw[List.getElem?_append_left (by simpa using hl),List.getElem?_replicate,if_pos hl]at hh;injection hh with hh;exact .inl ⟨hl,hh.symm⟩
  ·subst hl;rw[List.getElem?_append_right (by simp)]at hh;simp at hh;exact .inr ⟨rfl,hh.symm⟩
  ·rw[List.getElem?_eq_none (by simp;omega)]at hh;cases hh
 refine⟨λh o' ey=> ?_,λk1 k2 o1 o2 g e1 m1 e2 m2 s1 s2=> ?_,hs.fb,λb hb=> ?_,hs.mf⟩
 ·rcases lH h o' ey with⟨_,rfl⟩|⟨rfl,rfl⟩
  ·unfold fT;trivial
  ·have old:=hs.obj _ _ cD;unfold fT at old|-;rw[hk]at old|-;dsimp only at old|-;obtain⟨g,hg,nF,nK,c,ty,hh,KK,o5,Da⟩:=old;refine⟨g,hg,nF,λhO=> ?_,c,ty,hh,KK,o5,λi j d hd=> ?_⟩
   ·rcases hO with hO|⟨h',o2,q1,q2,q3,q4⟩
    ·exact nK hO
    ·exact q2 (hs.inj h' h o2 o' g q1 q3 cD (mA hk) q4 hg)
   ·obtain⟨u,hu,hr⟩:=Da i j d hd;refine⟨u,hu,.aN (hr.ag6 ?_)⟩;unfold cellAt at hd;cases hq:o'.es[i]? with
    |none=>simp[hq]at hd
    |some row=>
     simp[hq]at hd;exact acS row (List.mem_of_getElem? hq) d (List.mem_of_getElem? hd)
 ·rcases lH k1 o1 e1 with⟨_,rfl⟩|⟨rfl,rfl⟩
  ·rcases m1 with m1|m1|⟨_,m1⟩<;>cases m1
  ·rcases lH k2 o2 e2 with⟨_,rfl⟩|⟨rfl,rfl⟩
   ·rcases m2 with m2|m2|⟨_,m2⟩<;>cases m2
   ·rfl
 ·rcases hb with hb|⟨h',o2,q1,_,q3,q4⟩
  ·exact hs.kb b hb
  ·exact hs.wV q1 (P7 q3) q4
theorem alA [Inhabited Env](hs:bF K F σ hp w){k}{ob o':ak}{val}{hpr}{v}(cD:hp[k]? =some ob)(hk:ob.k= .loc)
 (ey:hpr[k]? =some o') (wS:o'.k= .loc) (hlen:o'.es.length=ob.es.length) (acS:∀r∈o'.es,∀d∈r,d.aY=true) (hv:aoQ val=true)
 (hg:dM (Oth K σ hp k) F σ (List.replicate k ⟨.dead,0,[]⟩++[ob]) w val hpr v w'):dM K F σ hp w val (hp.set k o') v w':=by
 obtain⟨F',σ',h1,h2,h3,h4⟩:=hg;have fM:=ck cD;have Nu:(List.replicate k (⟨.dead,0,[]⟩:ak)++[ob])[k]? =some ob:=by rw[List.getElem?_append_right (by simp)];simp
 obtain⟨o2,q1,_,q3⟩:=h3.ob k ob Nu;rw[ey]at q1;injection q1 with q1;subst q1;obtain⟨_,hz,hσ,asq⟩:=q3 (by rw[wS];simp) hlen;have vY:∀(h:Nat) (o2:ak) (g:Nat),h≠k->hp[h]? =some o2->o2.k≠ .dead->σ h=some g->w'.heap[g]? =w.heap[g]? /\(F' g->F g):=by
  intro h o2 g bw qK hd hg;have acW:o2.k.mut->w'.heap[g]? =w.heap[g]? /\(F' g->F g):=λhm=>by have hO:Oth K σ hp k g:= .inr ⟨h,o2,qK,bw,hm,hg⟩;exact⟨h2.qa g hO,λhF=>(h2.new g hF).elim id λhn=>absurd hO hn⟩
  have old:=hs.obj h o2 qK;unfold fT at old;split at old
  ·exact absurd (by assumption) hd
  ·exact acW (.inl (by assumption))
  ·rcases old with⟨_,h0⟩|⟨g2,e1,e2,_⟩
   ·rw[hg]at h0;cases h0
   ·rw[hg]at e1;injection e1 with e1;subst e1;exact⟨h2.bS g e2,λ_=>e2⟩
  ·exact acW (mA (by assumption))
  ·exact acW (.inr (.inr ⟨_,by assumption⟩))
 have lH:∀h:Nat,(hp.set k o')[h]? =if h=k then some o' else hp[h]? :=by
  intro h;by_cases e:h=k
  ·subst e;rw[if_pos rfl];simp[fM]
  ·rw[if_neg e,List.getElem?_set_ne (Ne.symm e)]
 have hm:HM F σ hp w F' σ (hp.set k o') w':=by
  refine⟨h3.mono,h3.bS,by simp,λh o2 qK=> ?_⟩;rw[lH];by_cases e:h=k
  ·subst e;rw[cD]at qK;injection qK with qK;subst qK;rw[if_pos rfl];exact⟨_,rfl,by omega,λ_ _=>⟨by rw[hk];simp,hz,rfl,asq⟩⟩
  ·rw[if_neg e];exact⟨o2,qK,Nat.le_refl _,λhd _=>⟨hd,rfl,rfl,λg hg=>P5 (vY h o2 g e qK hd hg).1⟩⟩
 refine⟨F',σ,⟨λh o2 qK=> ?_,λk1 k2 o1 o2 g e1 m1 e2 m2 s1 s2=> ?_,h1.fb,λb hb=>Nat.lt_of_lt_of_le (hs.kb b hb) h2.size,h1.mf⟩,
  ⟨h2.os,h2.tape,h2.output,h2.size,λb hb=>h2.qa b (.inl hb),h2.bS,h2.mono,λb hb=>(h2.new b hb).imp id λhn hK=>hn (.inl hK)⟩,hm,alz hv h4⟩
 ·rw[lH]at qK;by_cases e:h=k
  ·rw[if_pos e]at qK;injection qK with qK;subst qK;subst e;have new:=h1.obj _ _ ey;unfold fT at new|-;rw[wS]at new|-;dsimp only at new|-;obtain⟨g,hg,nF,nK,c,ty,hh,KK,o5,Da⟩:=new;rw[hσ]at hg;refine⟨g,hg,nF,λhK=>nK (.inl hK),c,ty,hh,KK,o5,λi j d hd=> ?_⟩;obtain⟨u,hu,hr⟩:=Da i j d hd;refine⟨u,hu,.aN (hr.ag6 ?_)⟩;unfold cellAt at hd;cases hq:o'.es[i]? with
   |none=>simp[hq]at hd
   |some row=>
    simp[hq]at hd;exact acS row (List.mem_of_getElem? hq) d (List.mem_of_getElem? hd)
  ·rw[if_neg e]at qK;have old:=hs.obj _ _ qK;unfold fT at old|-;split
   ·trivial
   ·rename_i fE;rw[fE]at old;dsimp only at old;rcases old with h0|⟨g,e1,e2,e3,e4⟩
    ·exact .inl h0
    ·obtain⟨k1,k2⟩:=vY h o2 g e qK (by rw[fE];simp) e1;exact .inr ⟨g,e1,λhF=>e2 (k2 hF),e3,e4.mono k1 λd v hr=>⟨hr.1.mono hm.mono hm.bS,hr.2⟩⟩
   ·rename_i fE;rw[fE]at old;dsimp only at old;rcases old with h0|⟨g,e1,e2,e4⟩
    ·exact .inl h0
    ·obtain⟨k1,_⟩:=vY h o2 g e qK (by rw[fE];simp) e1;exact .inr ⟨g,e1,h2.mono g e2,e4.mono k1 λd v hr=>⟨hr.1.mono hm.mono hm.bS,hr.2⟩⟩
   ·rename_i fE;rw[fE]at old;dsimp only at old;obtain⟨g,e1,e2,e3,e4⟩:=old;obtain⟨k1,k2⟩:=vY h o2 g e qK (by rw[fE];simp) e1;exact⟨g,e1,λhF=>e2 (k2 hF),e3,e4.mono k1 λd v hr=>hr.mono hm⟩
   ·rename_i fE;rw[fE]at old;dsimp only at old;obtain⟨e0',g,e1,e2,e3,e4⟩:=old;obtain⟨k1,k2⟩:=vY h o2 g e qK (by rw[fE];simp) e1;exact⟨e0',g,e1,λhF=>e2 (k2 hF),e3,e4.mono k1 λd v hr=>⟨hr.1.mono hm.mono hm.bS,hr.2⟩⟩
 ·have ag7:∀(h:Nat) (o2:ak),(hp.set k o')[h]? =some o2->o2.k.mut->∃o3,hp[h]? =some o3/\o3.k.mut:=λh o2 e m=>by
   rw[lH]at e;by_cases q:h=k
   ·subst q;exact⟨ob,cD,mA hk⟩
   ·rw[if_neg q]at e;exact⟨o2,e,m⟩
  obtain⟨p1,r1,t1⟩:=ag7 k1 o1 e1 m1;obtain⟨p2,r2,t2⟩:=ag7 k2 o2 e2 m2;exact hs.inj k1 k2 p1 p2 g r1 t1 r2 t2 s1 s2
theorem aoR{σ2}{gh}{n off}{ob:ak}{v}(h:aB F σ hp w (.own n 0 off 0) v)(ho:hp[n]? =some ob)(hk:ob.k= .aN)(hL:ob.es.length=0):aB F σ2 gh w (.sl []) v:=by obtain⟨A,cap,rfl,hc,_⟩:=(h.qL.2 ob ho).2 (by rw[hk];simp) hL;exact .aN (.sl [] A 0 cap ⟨0,0,none⟩ 0 (λ_ _=> .bool false) rfl hc (λh=>absurd rfl h) (by simp) (by simp[cellAt]) (by simp[cellAt]))
theorem aoS [Inhabited Env](hs:bF K F σ hp w){k h n L off len}{ob o' od obj:ak}{hpr}{v}(cD:hp[k]? =some ob)(hk:ob.k= .loc)
 (ey:hpr[k]? =some o') (wS:o'.k= .loc) (hlen:o'.es.length=ob.es.length) (acS:∀r∈o'.es,∀d∈r,d.aY=true)
 (hod:hp[h]? =some od) (hd1:od.k= .dead) (hd2:od.es=[]) (hkn:k<n) (hn:hpr[n]? =some obj) (hj1:obj.k= .aN) (Jj:obj.es.length=L) (hL:L≠0)
 (hg:dM (Oth K σ hp k) F σ (List.replicate k ⟨.dead,0,[]⟩++[ob]) w (.own n L off len) hpr v w'):dM K F σ hp w (.own h L off len) ((hp.set k o').set h obj) v w':=by
 obtain⟨F',σ',h1,h2,h3,h4⟩:=hg;have fM:=ck cD;have AA:=ck hod;have bw:h≠k:=λe=>by subst e;rw[cD]at hod;injection hod with hod;subst hod;rw[hk]at hd1;cases hd1
 have Nu:(List.replicate k (⟨.dead,0,[]⟩:ak)++[ob])[k]? =some ob:=by rw[List.getElem?_append_right (by simp)];simp
 obtain⟨o2,q1,_,q3⟩:=h3.ob k ob Nu;rw[ey]at q1;injection q1 with q1;subst q1;obtain⟨_,hz,hσ,asq⟩:=q3 (by rw[wS];simp) hlen;have aoT:=h1.obj _ _ hn;unfold fT at aoT;rw[hj1]at aoT;dsimp only at aoT;have azo:obj.es≠[]:=λe=>hL (by rw[<-Jj,e];rfl);obtain⟨gn,gn1,gn2,gn3,gn4⟩:=aoT.resolve_left λe=>azo e.1;have vY:∀(i:Nat) (o2:ak) (g:Nat),i≠k->hp[i]? =some o2->o2.k≠ .dead->σ i=some g->w'.heap[g]? =w.heap[g]? /\(F' g->F g):=by
  intro h o2 g bw qK hd hg;have acW:o2.k.mut->w'.heap[g]? =w.heap[g]? /\(F' g->F g):=λhm=>by have hO:Oth K σ hp k g:= .inr ⟨h,o2,qK,bw,hm,hg⟩;exact⟨h2.qa g hO,λhF=>(h2.new g hF).elim id λhn=>absurd hO hn⟩
  have old:=hs.obj h o2 qK;unfold fT at old;split at old
  ·exact absurd (by assumption) hd
  ·exact acW (.inl (by assumption))
  ·rcases old with⟨_,h0⟩|⟨g2,e1,e2,_⟩
   ·rw[hg]at h0;cases h0
   ·rw[hg]at e1;injection e1 with e1;subst e1;exact⟨h2.bS g e2,λ_=>e2⟩
  ·exact acW (mA (by assumption))
  ·exact acW (.inr (.inr ⟨_,by assumption⟩))
 have lH:∀i:Nat,((hp.set k o').set h obj)[i]? =if i=h then some obj else if i=k then some o' else hp[i]? :=by
  intro i;by_cases e:i=h
  ·subst e;rw[if_pos rfl];simp[AA]
  ·rw[if_neg e,List.getElem?_set_ne (Ne.symm e)];by_cases e':i=k
   ·subst e';rw[if_pos rfl];simp[fM]
   ·rw[if_neg e',List.getElem?_set_ne (Ne.symm e')]
 let τ:Nat->Option Nat:=λi=>if i=h then σ' n else σ i;have τh:τ h=some gn:=by simp only[τ,if_true,gn1]
 have τe:∀i,i≠h->τ i=σ i:=λi e=>if_neg e;have hm:HM F σ hp w F' τ ((hp.set k o').set h obj) w':=by
  refine⟨h3.mono,h3.bS,by simp,λi o2 qK=> ?_⟩;rw[lH];by_cases e:i=h
  ·subst e;rw[hod]at qK;injection qK with qK;subst qK;rw[if_pos rfl];refine⟨_,rfl,by rw[hd2];simp,λ_ e2=> ?_⟩;rw[hd2]at e2;exact absurd (by rw[<-Jj,e2];rfl) hL
  ·rw[if_neg e];by_cases e':i=k
   ·subst e';rw[cD]at qK;injection qK with qK;subst qK;rw[if_pos rfl];exact⟨_,rfl,by omega,λ_ _=>⟨by rw[hk];simp,hz,τe _ e,asq⟩⟩
   ·rw[if_neg e'];exact⟨o2,qK,Nat.le_refl _,λhd _=>⟨hd,rfl,τe _ e,λg hg=>P5 (vY i o2 g e' qK hd hg).1⟩⟩
 obtain⟨_,hv4⟩:=h4.qL;have hov:=(hv4 obj hn).2 (by rw[hj1];simp) Jj;refine⟨F',τ,⟨λi o2 qK=> ?_,λk1 k2 o1 o2 g e1 m1 e2 m2 s1 s2=> ?_,h1.fb,λb hb=>Nat.lt_of_lt_of_le (hs.kb b hb) h2.size,h1.mf⟩,
  ⟨h2.os,h2.tape,h2.output,h2.size,λb hb=>h2.qa b (.inl hb),h2.bS,h2.mono,λb hb=>(h2.new b hb).imp id λhn hK=>hn (.inl hK)⟩,hm,?_⟩
 ·rw[lH]at qK;by_cases e0:i=h
  ·rw[if_pos e0]at qK;injection qK with qK;subst qK;subst e0;unfold fT;rw[hj1];dsimp only;exact .inr ⟨gn,τh,gn2,λhK=>gn3 (.inl hK),gn4⟩
  rw[if_neg e0]at qK;by_cases e:i=k
  ·rw[if_pos e]at qK;injection qK with qK;subst qK;subst e;have new:=h1.obj _ _ ey;unfold fT at new|-;rw[wS]at new|-;dsimp only at new|-;obtain⟨g,hg,nF,nK,c,ty,hh,KK,o5,Da⟩:=new;rw[hσ]at hg;refine⟨g,(τe _ e0).trans hg,nF,λhK=>nK (.inl hK),c,ty,hh,KK,o5,λi j d hd=> ?_⟩;obtain⟨u,hu,hr⟩:=Da i j d hd;refine⟨u,hu,.aN (hr.ag6 ?_)⟩;unfold cellAt at hd;cases hq:o'.es[i]? with
   |none=>simp[hq]at hd
   |some row=>
    simp[hq]at hd;exact acS row (List.mem_of_getElem? hq) d (List.mem_of_getElem? hd)
  ·rw[if_neg e]at qK;have old:=hs.obj _ _ qK;unfold fT at old|-;rw[τe _ e0];split
   ·trivial
   ·rename_i fE;rw[fE]at old;dsimp only at old;rcases old with h0|⟨g,e1,e2,e3,e4⟩
    ·exact .inl h0
    ·obtain⟨k1,k2⟩:=vY i o2 g e qK (by rw[fE];simp) e1;exact .inr ⟨g,e1,λhF=>e2 (k2 hF),e3,e4.mono k1 λd v hr=>⟨hr.1.mono hm.mono hm.bS,hr.2⟩⟩
   ·rename_i fE;rw[fE]at old;dsimp only at old;rcases old with h0|⟨g,e1,e2,e4⟩
    ·exact .inl h0
    ·obtain⟨k1,_⟩:=vY i o2 g e qK (by rw[fE];simp) e1;exact .inr ⟨g,e1,h2.mono g e2,e4.mono k1 λd v hr=>⟨hr.1.mono hm.mono hm.bS,hr.2⟩⟩
   ·rename_i fE;rw[fE]at old;dsimp only at old;obtain⟨g,e1,e2,e3,e4⟩:=old;obtain⟨k1,k2⟩:=vY i o2 g e qK (by rw[fE];simp) e1;exact⟨g,e1,λhF=>e2 (k2 hF),e3,e4.mono k1 λd v hr=>hr.mono hm⟩
   ·rename_i fE;rw[fE]at old;dsimp only at old;obtain⟨e0',g,e1,e2,e3,e4⟩:=old;obtain⟨k1,k2⟩:=vY i o2 g e qK (by rw[fE];simp) e1;exact⟨e0',g,e1,λhF=>e2 (k2 hF),e3,e4.mono k1 λd v hr=>⟨hr.1.mono hm.mono hm.bS,hr.2⟩⟩
 ·have ag7:∀(i:Nat) (o2:ak),i≠h->((hp.set k o').set h obj)[i]? =some o2->o2.k.mut->∃o3,hp[i]? =some o3/\o3.k.mut:=λi o2 e0 e m=>by
   rw[lH,if_neg e0]at e;by_cases q:i=k
   ·subst q;exact⟨ob,cD,mA hk⟩
   ·rw[if_neg q]at e;exact⟨o2,e,m⟩
  have far:∀(i:Nat) (o2:ak),i≠h->((hp.set k o').set h obj)[i]? =some o2->o2.k.mut->τ i=some gn->False:=λi o2 e0 e m s=>by
   rw[τe _ e0]at s;by_cases q:i=k
   ·subst q;have:=h1.inj i n o' obj gn ey (mA wS) hn (.inl hj1) (hσ.trans s) gn1;omega
   ·obtain⟨p,r,t⟩:=ag7 i o2 e0 e m;exact gn3 (.inr ⟨i,p,r,q,t,s⟩)
  by_cases a1:k1=h
  ·by_cases a2:k2=h
   ·rw[a1,a2]
   ·exfalso;rw[a1,τh]at s1;injection s1 with s1;subst s1;exact far k2 o2 a2 e2 m2 s2
  ·by_cases a2:k2=h
   ·exfalso;rw[a2,τh]at s2;injection s2 with s2;subst s2;exact far k1 o1 a1 e1 m1 s1
   ·obtain⟨p1,r1,t1⟩:=ag7 k1 o1 a1 e1 m1;obtain⟨p2,r2,t2⟩:=ag7 k2 o2 a2 e2 m2;rw[τe _ a1]at s1;rw[τe _ a2]at s2;exact hs.inj k1 k2 p1 p2 g r1 t1 r2 t2 s1 s2
 ·obtain⟨A,cap,rfl,hc,hb⟩:=hov;refine .own _ _ _ _ _ rfl (by simpa using AA) λo ho=> ?_;rw[lH,if_pos rfl]at ho;injection ho with ho;subst ho;refine⟨Nat.le_of_eq Jj.symm,λ_ _=>⟨A,cap,rfl,hc,hb.imp id λ⟨g,g1,g2⟩=>⟨g,?_,g2⟩⟩⟩;rw[τh,<-g1,gn1]
theorem alB [Inhabited Env](hs:bF K F σ hp w)(hf:jq F σ hp w fr a.tmps){t}{x i y}{m k z}(ho:o.op= .mapUpdate t x i y\/o.op= .insert t x i y)
 (hm:(Qd P t&&cF x m&&cF i k&&cF y z)=true) (h:(aw C (.KB m k z) ⟨fr,hp⟩).pre):
 Qc P o a w (λv w'=>dM K F σ hp w (aw C (.KB m k z) ⟨fr,hp⟩).val (aw C (.KB m k z) ⟨fr,hp⟩).hp v w'):=by
 simp only[Bool.and_eq_true]at hm;obtain⟨⟨⟨h2,h3⟩,h4⟩,h5⟩:=hm;simp only[aw]at h|-;cases e1:fG hp (m.ev fr)with
 |none=>simp[e1,no]at h
 |some es=>
  have v2:=aE hf h4;have v3:=aE hf h5;cases e2:k.ev fr<;>simp only[e1,e2,no]at h v2|- <;>try exact h.elim
  cases e3:z.ev fr<;>simp only[e3,slD]at h v3|- <;>try exact h.elim
  ·refine y8 (alC hs ho h2 (aE hf h3) v2.ny e1 ⟨?_,_,rfl⟩);rw[v3.kx];exact bY.LZ (z:=0) (by simp) (λi e he=>by simp at he) (λbw=>absurd rfl bw)
  ·exact y8 (alC hs ho h2 (aE hf h3) v2.ny e1 ⟨v3.sb,_,rfl⟩)
theorem rp [Inhabited Env](hC:C.ok P)(hs:bF K F σ hp w)(hf:jq F σ hp w fr a.tmps){op:Op}{d}(ho:o.op=op)(hm:Tn P op d=true):Sound P K F σ hp w fr a C o d:=by
 intro h;unfold Tn at hm;split at hm
 ·exact(avJ (.inl ho) hf hm).meets hs
 ·exact(avJ (.inr ho) hf hm).meets hs
 ·rename_i x y;obtain⟨F1,f1,r1⟩:=Il hs (aE hf hm) h;exact bu ⟨a.eval x,w,by simp[execOp,ho],.Im f1 (.same f1.1 r1.bare)⟩
 ·rename_i x y;obtain⟨F1,f1,r1⟩:=Il hs (aE hf hm) h;exact bu ⟨a.eval x,w,by simp[execOp,ho],.Im f1 (.same f1.1 r1.bare)⟩
 ·rename_i x z y;have hv:=aE hf hm;simp only[aw]at h|-;cases he:y.ev fr<;>simp only[he,no]at h hv|- <;>try exact h.elim
  exact bu (Nv hs (.inl ho) hv.kx)
 ·rename_i x z y;have hv:=aE hf hm;simp only[aw]at h|-;cases he:y.ev fr<;>simp only[he,no]at h hv|- <;>try exact h.elim
  exact bu (Nv hs (.inr ho) hv.kx)
 ·rename_i xs ts y;simp only[Bool.and_eq_true]at hm;obtain⟨z5,ht⟩:=hm;obtain⟨x,sS,hx⟩:=KI z5;split at ht;rotate_left
  ·cases ht
  rename_i t uS;obtain rfl:=y7 uS;split at ht
  ·rename_i e Gl;have hv:=aE hf hx;simp only[aw]at h|-;cases he:y.ev fr<;>simp only[he,no]at h hv|- <;>try exact h.elim
   exact(avK ho sS Gl hv.kx).meets hs
  ·cases ht
 ·rename_i c x y c' x' y';simp only[Bool.and_eq_true]at hm;simp only[aw]at h|-;cases he:c'.ev fr<;>simp only[he,no]at h|- <;>try exact h.elim
  rename_i b;cases b
  ·exact(alD ho hf hm.1.1 hm.1.2 hm.2 he).meets hs
  ·exact(alD ho hf hm.1.1 hm.1.2 hm.2 he).meets hs
 ·simp only[Bool.and_eq_true,decide_eq_true_eq]at hm;obtain⟨⟨rfl,h1⟩,h2⟩:=hm;exact(avL ho hf h1 h2 h).meets hs
 ·simp only[Bool.and_eq_true]at hm;obtain⟨⟨⟨h0,h1⟩,h2⟩,h3⟩:=hm;split at h3
  ·rename_i ht;exact(avM ho h0 ht hf h1 h2 h).meets hs
  ·cases h3
 ·simp only[Bool.and_eq_true]at hm;obtain⟨⟨⟨h0,h1⟩,h2⟩,h3⟩:=hm;exact(avN ho h0 h3 hf h1 h2 h).meets hs
 ·rename_i op t x u n x';simp only[Bool.and_eq_true]at hm;obtain⟨⟨h0,h1⟩,h2⟩:=hm;have hh:(aw C (.PL n x') ⟨fr,hp⟩).hp=hp:=by simp only[aw]at h|-;split at h<;>first|rfl|exact h.elim
  rw[hh];split at h2
  ·rename_i e ht;exact(ass ho h0 ht hf h1 h).meets hs
  ·cases h2
 ·simp only[Bool.and_eq_true,decide_eq_true_eq]at hm;obtain⟨rfl,h1⟩:=hm;exact(azr ho hf h1 h).meets hs
 ·rename_i s t x k y;simp only[Bool.and_eq_true]at hm;have hv:=aE hf hm.1.1;simp only[aw]at h|-;cases he:y.ev fr<;>simp only[he,no]at h hv|- <;>try exact h.elim
  exact(ast ho hm.1.2 (ZH hm.2) hv.gJ).meets hs
 ·rename_i s t x y;simp only[Bool.and_eq_true]at hm;obtain⟨⟨h0,h1⟩,h2⟩:=hm;have hv:=aE hf h0;simp only[aw]at h|-;obtain⟨nq,gh,hp3⟩:=h;have R0:∀s,y.ev fr≠ .str s:=by intro s um;rw[um]at gh;exact gh
  split at h2
  ·rename_i e hse;obtain⟨A,c,z,e1,hlc,o5,hA,_⟩:=rq hs hv nq R0;refine(avO ho hse (ZH h2) (Io h1) e1 hp3 (λbw=> ?_) (λ_ _ _=>trivial)).meets hs;obtain⟨b,hb,WK,_,hc⟩:=hA bw;refine⟨b,hb,WK,λi j d hd=> ?_⟩;obtain⟨u,hu,_,hr⟩:=hc i j d hd;have hz1:z=1:=by obtain⟨e0,he0⟩:=List.exists_mem_of_ne_nil _ bw;obtain⟨k0,z9,rfl⟩:=List.getElem_of_mem he0;obtain⟨n,hn⟩:=hp3 _ he0;have:=o5 k0 _ (List.getElem?_eq_getElem z9);rw[hn]at this;simpa using this.symm
   subst hz1;exact⟨u,hu,hr⟩
  ·cases h2
 ·rename_i xs ts y;simp only[Bool.and_eq_true]at hm;obtain⟨z5,ht⟩:=hm;obtain⟨x,sS,hx⟩:=KI z5;split at ht;rotate_left
  ·cases ht
  rename_i t uS;obtain rfl:=y7 uS;split at ht
  ·rename_i e Gl;have hv:=aE hf hx;simp only[aw]at h|-;cases he:y.ev fr<;>simp only[he,no]at h hv|- <;>try exact h.elim
   ·exact(alF ho sS Gl hv.kx).meets hs
   ·obtain⟨A,c,z,e1,_⟩:=hv.sb.sb;exact(alF ho sS Gl e1).meets hs
   ·rename_i h' L off n;obtain⟨hl,cD⟩:=hv.qL;unfold alive at h;cases WL:hp[h']? with
    |none=>simp[WL]at h
    |some ob=>
     simp only[WL]at h;obtain⟨A,cap,e1,_⟩:=(cD ob WL).2 h.1 h.2;exact(alF ho sS Gl e1).meets hs
  ·cases ht
 ·rename_i xs ts y;simp only[Bool.and_eq_true]at hm;obtain⟨z5,ht⟩:=hm;obtain⟨x,sS,hx⟩:=KI z5;split at ht;rotate_left
  ·cases ht
  rename_i t uS;obtain rfl:=y7 uS;have hv:=aE hf hx;simp only[aw]at h|-;cases he:y.ev fr<;>simp only[he,no]at h hv|- <;>try exact h.elim
  exact(asu ho sS (Io ht) hv.ny).meets hs
 ·rename_i xs ts n;simp only[Bool.and_eq_true,beq_iff_eq]at hm;obtain⟨z5,ht⟩:=hm;split at ht;rotate_left
  ·cases ht
  rename_i t uS;obtain rfl:=y7 uS;obtain⟨x,sS⟩:∃x,xs= #[x]:=by
   obtain⟨l⟩:=xs;match l,z5 with
   |[x],_=>exact⟨x,rfl⟩
  subst sS;refine gX.meets hs (x9 ho (v:= .int .i64 n) (λcs=> ?_) (.aN (.int _ _)));split at ht
  ·rename_i m e Gl;simp at ht;subst ht;cases a.eval x<;>simp[builtin,Builtin.len_,bO Gl,goInt]
  ·rename_i e Gl;split at ht
   ·rename_i m e' azt;simp at ht;subst ht;cases a.eval x<;>simp[builtin,Builtin.len_,bO Gl,bO azt,goInt]
   ·cases ht
  ·cases ht
 ·rename_i xs ts x y;obtain⟨x1,y1,sS,h1,h2⟩:=x8 hm;have v1:=aE hf h1;have v2:=aE hf h2;simp only[aw]at h|-;cases he:x.ev fr<;>cases WM:y.ev fr<;>simp only[he,WM,no]at h v1 v2|- <;>try exact h.elim
  subst h;exact(ZI (mx:=true) rfl ho sS v1.gJ v2.gJ).meets hs
 ·rename_i xs ts x y;obtain⟨x1,y1,sS,h1,h2⟩:=x8 hm;have v1:=aE hf h1;have v2:=aE hf h2;simp only[aw]at h|-;cases he:x.ev fr<;>cases WM:y.ev fr<;>simp only[he,WM,no]at h v1 v2|- <;>try exact h.elim
  subst h;exact(ZI (mx:=false) rfl ho sS v1.gJ v2.gJ).meets hs
 ·simp only[Bool.and_eq_true,decide_eq_true_eq]at hm;exact(asv hs ho hm.2 hf hm.1 h).meets hs
 ·rename_i t p v n q u;simp only[Bool.and_eq_true]at hm;obtain⟨⟨h1,h2⟩,h3⟩:=hm;cases hi:P.info? t with
  |none=>simp[hi]at h3
  |some i=>
   simp only[hi,beq_iff_eq]at h3;subst h3;simp only[aw,lY]at h|-;cases he:q.ev fr<;>simp only[he,no]at h|- <;>try exact h.elim
   rename_i h' L r j;cases cD:hp[h']? with
   |none=>simp[cD]at h
   |some ob=>
    simp only[cD]at h|-;by_cases hk:ob.k= .loc
    ·simp only[if_pos hk]at h|-;obtain⟨hn,hL,hr,hj,h1'⟩:=h;subst hL;exact y8 (ZJ hs ho hi hf h1 h2 cD hk he hn hr hj h1')
    ·simp only[if_neg hk]at h|-;by_cases si:ob.k= .aN
     ·simp only[if_pos si]at h|-;cases R9:(tJ hp (cellsOf (u.ev fr))).hp[h']? with
      |none=>simp[R9]at h
      |some ob'=>
       simp only[R9]at h|-;obtain⟨hn,bG,wS,hL,hr,hj⟩:=h;subst hL;refine y8 (ZK hs ho hi hf h1 h2 cD si he hn hr hj bG R9 wS ?_);intro hu;rw[hu]at bG;simp[cellsOf,tJ,hH,DV.aY]at bG
     ·simp only[if_neg si]at h
 ·rename_i t p f off q;simp only[Bool.and_eq_true]at hm;obtain⟨h1,h2⟩:=hm;split at h2
  ·rename_i fs uS;split at h2
   ·rename_i fl UI;simp only[Bool.and_eq_true,beq_iff_eq]at h2;obtain⟨rfl,h2⟩:=h2;cases hi:P.info? fl.type with
    |none=>simp[hi]at h2
    |some i=>
     simp only[hi,bne_iff_ne]at h2;have hv:=aE hf h1;simp only[aw]at h|-;cases he:q.ev fr<;>simp only[he,no]at h hv|- <;>try exact h.elim
     ·rename_i h' L r j;obtain⟨ob,g,cD,hk,hL,hg,e1⟩:=KJ hv h;exact(ae0 ho uS UI hi h2 e1 rfl (Tk cD hL hg _)).meets hs
     ·rename_i cs;obtain⟨b,e1,WK,_⟩:=hv.nz.nz;have hr:=hv.nz;rw[e1]at hr;exact(ae0 ho uS UI hi h2 e1 WK (.aN (ZL hr _))).meets hs
   ·cases h2
  ·cases h2
 ·rename_i t x f off sz y;simp only[Bool.and_eq_true]at hm;obtain⟨h1,h2⟩:=hm;split at h2
  ·rename_i fs uS;split at h2
   ·rename_i fl UI;simp only[Bool.and_eq_true,beq_iff_eq,decide_eq_true_eq]at h2;obtain⟨rfl,h2⟩:=h2;simp only[aw]at h|-;cases he:y.ev fr<;>simp only[he,no]at h|- <;>try exact h.elim
    exact(aoU ho uS UI h2 hf h1 he h).meets hs
   ·cases h2
  ·cases h2
 ·rename_i t x i z y k;simp only[Bool.and_eq_true]at hm;obtain⟨⟨h1,h2⟩,h3⟩:=hm;obtain⟨e,ti,zv,Gl,hi,To,rfl,sK,VU,Tp⟩:=ya h3;have v1:=aE hf h1;have v2:=aE hf h2;simp only[aw]at h|-;cases he:y.ev fr<;>cases WM:k.ev fr<;>simp only[he,WM,no]at h v1 v2|- <;>try exact h.elim
  ·rename_i es kk n;obtain⟨hz,h0,hn⟩:=h;obtain⟨A,c,z,e1,hlc,hA,o5⟩:=v1.sb.sb;have fM:n.toNat<es.length:=by omega
   obtain⟨b,hb,WK,hF,hc⟩:=hA (by intro e;rw[e]at fM;simp at fM);have pJ:es.getD n.toNat []=es[n.toNat]:=by simp[List.getD,fM]
   have hzi:z=ti.size:=by rw[<-o5 n.toNat _ (List.getElem?_eq_getElem fM),<-pJ];exact hz
   refine(ae1 ho Gl hi e1 v2.gJ hb WK h0 (by exact_mod_cast hn) (.aN (bY.acX rfl hF λj d hd=> ?_))).meets hs;rw[pJ]at hd;obtain⟨u,hu,h1',hr⟩:=hc n.toNat j d (by simp[cellAt,fM,hd]);exact⟨u,by rw[<-hzi];simpa[Nat.add_assoc]using hu,h1',hr⟩
  ·rename_i h' L off len kk n;cases cD:hp[h']? with
   |none=>simp[cD]at h
   |some ob=>
    simp only[cD]at h|-;obtain⟨hk,hz,hL,h0,hn⟩:=h;obtain⟨A,cap,e1,hle,hA⟩:=(v1.qL.2 ob cD).2 hk hL;rcases hA with hA|⟨g,hg,rfl,Db⟩
    ·omega
    ·refine(ae1 ho Gl hi e1 v2.gJ rfl rfl h0 hn (.ptr _ _ _ _ _ rfl (ck cD) λo' ey=> ?_)).meets hs;rw[cD]at ey;injection ey with ey;subst ey;refine⟨by omega,λ_ _=>⟨g,hg,?_⟩⟩;rw[hz,Nat.add_mul];simp
 ·rename_i t x i n z y k;simp only[Bool.and_eq_true]at hm;obtain⟨⟨h1,h2⟩,h3⟩:=hm;split at h3
  ·rename_i m e Gl;simp only[Bool.and_eq_true,beq_iff_eq]at h3;obtain⟨rfl,h3⟩:=h3;cases hi:P.info? e with
   |none=>simp[hi]at h3
   |some ti=>
    simp only[hi,beq_iff_eq]at h3;subst h3;have v1:=aE hf h1;have v2:=aE hf h2;simp only[aw]at h|-;cases he:y.ev fr<;>cases WM:k.ev fr<;>simp only[he,WM,no]at h v1 v2|- <;>try exact h.elim
    ·rename_i h' L r j kk q;obtain⟨ha,h0,hn⟩:=h;obtain⟨ob,g,cD,hk,hL,hg,e1⟩:=KJ v1 ha;exact(ZM ho Gl hi e1 v2.gJ rfl h0 hn (Tk cD hL hg _)).meets hs
    ·rename_i cs kk q;obtain⟨h0,hn⟩:=h;obtain⟨b,e1,WK,_⟩:=v1.nz.nz;have hr:=v1.nz;rw[e1]at hr;exact(ZM ho Gl hi e1 v2.gJ WK h0 hn (.aN (ZL hr _))).meets hs
  ·cases h3
 ·rename_i t x i y k;simp only[Bool.and_eq_true]at hm;obtain⟨⟨h1,h2⟩,h3⟩:=hm;have v1:=aE hf h1;have v2:=aE hf h2;simp only[aw]at h|-;cases he:y.ev fr<;>cases WM:k.ev fr<;>simp only[he,WM,no]at h v1 v2|- <;>try exact h.elim
  exact(aoV ho (Io h3) v1.ny v2.gJ h.1 h.2).meets hs
 ·rename_i t x lo hi mx y l hh;simp only[Bool.and_eq_true]at hm;obtain⟨⟨⟨⟨h1,h2⟩,h3⟩,h4⟩,h5⟩:=hm;exact(alG ho (Io h5) (by simpa using h4) hf h1 h2 h3 h).meets hs
 ·rename_i t x lo hi mx z y l hh m;simp only[Bool.and_eq_true]at hm;obtain⟨⟨⟨⟨h1,h2⟩,h3⟩,h4⟩,h5⟩:=hm;obtain⟨e,ti,zv,Gl,Gk,To,rfl,sK,VU,Tp⟩:=ya h5;exact(aoW ho Gl Gk hf h1 h2 h3 h4 h).meets hs
 ·rename_i t n c zero n' c';simp only[Bool.and_eq_true]at hm;obtain⟨⟨h1,h2⟩,h3⟩:=hm;split at h3
  ·rename_i e Gl;have v1:=aE hf h1;have v2:=aE hf h2;simp only[aw]at h|-;cases he:n'.ev fr<;>cases WM:c'.ev fr<;>simp only[he,WM,no]at h v1 v2|- <;>try exact h.elim
   exact bu (asw hs ho Gl h3 v1.gJ v2.gJ h.1 h.2.1 h.2.2)
  ·cases h3
 ·rename_i t n ps aN zero parts;simp only[Bool.and_eq_true,beq_iff_eq,decide_eq_true_eq]at hm;obtain⟨⟨⟨h1,h2⟩,h3⟩,h4⟩:=hm;split at h4
  ·rename_i e Gl;exact bu (alH hs ho Gl h4 h1 h2 h3 hf C h)
  ·cases h4
 ·rename_i t ps zero parts;exact(aoX ho (by simp only[Tn];exact hm) hf h).meets hs
 ·rename_i e zero;cases hi:P.info? e with
  |none=>simp[hi]at hm
  |some i=>
   simp only[hi]at hm;cases hz:i.zero with
   |none=>simp[hz]at hm
   |some z=>
    simp only[hz]at hm;exact bu (aoY hs ho hi hz hm)
 ·rename_i x z y;have hv:=aE hf hm;simp only[aw]at h|-;cases he:y.ev fr<;>simp only[he,no]at h hv|- <;>try exact h.elim
  ·exact bu (Nv hs (.inl ho) hv.kx)
  ·rename_i h' L off len;cases cD:hp[h']? with
   |none=>simp[cD]at h
   |some ob=>
    simp only[cD]at h|-;obtain⟨hk,rfl,rfl,hl⟩:=h;exact bu (alI hs (.inl ho) cD hk hl hv)
 ·rename_i x z y;have hv:=aE hf hm;simp only[aw]at h|-;cases he:y.ev fr<;>simp only[he,no]at h hv|- <;>try exact h.elim
  ·exact bu (Nv hs (.inr ho) hv.kx)
  ·rename_i h' L off len;cases cD:hp[h']? with
   |none=>simp[cD]at h
   |some ob=>
    simp only[cD]at h|-;obtain⟨hk,rfl,rfl,hl⟩:=h;exact bu (alI hs (.inr ho) cD hk hl hv)
 ·rename_i xs ts z zero s x;simp only[Bool.and_eq_true]at hm;obtain⟨z5,Ed⟩:=hm;obtain⟨s1,x1,sS,h1,h2⟩:=x8 z5;split at Ed;rotate_left
  ·cases Ed
  rename_i t u uS;obtain rfl:=FG uS;simp only[Bool.and_eq_true]at Ed;obtain⟨⟨h3,h4⟩,h5⟩:=Ed;obtain⟨e,ti,zv,Gl,hi,To,rfl,sK,VU,Tp⟩:=ya h3;have v1:=aE hf h1;have v2:=aE hf h2;split at h4;rotate_left
  ·cases h4
  rename_i k hu;rw[Gl]at h5;dsimp only at h5;obtain⟨i2,z2,hi2,JM,hmz,iP,_,_,avQ,_⟩:=KL h5;rw[hi]at hi2;injection hi2 with hi2;subst hi2;rw[To]at JM;injection JM with JM;subst JM;have mn:=λn=>KM (F:=F) (w:=w) hmz avQ n;have hz3:∀n:Nat,Builtin.zeroCells zv.cells n=(Array.range (n*zero.length)).map (zv.cells[·%zv.cells.size]!):=λn=>by unfold Builtin.zeroCells;rw[avQ]
  simp only[aw,SV]at h|-;cases WM:x.ev fr<;>simp only[WM,no]at h v2|- <;>try exact h.elim
  rename_i kk m;cases kk<;>simp only[]at h v2|- <;>try exact h.elim
  have DW:=v2.gJ;have avR:∀v∈(Builtin.zeroCells zv.cells m.toNat).toList,v.oneCell'=true:=by
   intro v hv;rw[hz3]at hv;obtain⟨k,hk,rfl⟩:=List.getElem_of_mem hv;have hkl:k<m.toNat*zero.length:=by simpa using hk
   have hzl:0<zero.length:=by omega
   obtain⟨u,hu,hr⟩:=(mn m.toNat).2.2 (k/zero.length) (k%zero.length) (zero[k%zero.length]'(Nat.mod_lt _ hzl)) (by
    unfold cellAt;rw[List.getElem?_replicate,if_pos ((Nat.div_lt_iff_lt_mul hzl).2 hkl)];simp[Nat.mod_lt _ hzl])
   rw[show k/zero.length*zero.length+k%zero.length=k from by rw[Nat.mul_comm];exact Nat.div_add_mod _ _]at hu;have:(((Array.range (m.toNat*zero.length)).map (zv.cells[·%zv.cells.size]!)).toList)[k]? =some u:=by rw[Array.getElem?_toList];exact hu
   rw[List.getElem?_eq_getElem hk]at this;injection this with this;rw[this];exact hr.1.vZ
  have rows:∀(k:Nat) (r:List DV),(List.replicate m.toNat zero)[k]? =some r->r.length=ti.size:=by
   intro k r hr;rw[List.getElem?_replicate]at hr;split at hr
   ·injection hr with hr;rw[<-hr,iP]
   ·cases hr
  have cells:∀k j r,cellAt (List.replicate m.toNat zero) k j=some r->∃x,(Builtin.zeroCells zv.cells m.toNat).toList[k*ti.size+j]? =some x/\Br F w r x:=by intro k j r hr;obtain⟨u,hu,hr⟩:=(mn m.toNat).2.2 k j r hr;exact⟨u,by rw[hz3,iP,Array.getElem?_toList];exact hu,hr⟩
  cases he:s.ev fr<;>simp only[he]at h v1|- <;>try exact h.elim
  ·have hA:=App.ae2 (P:=P) (w:=w) (ty:=o.type) Gl hu hi To sK VU Tp h.1 h.2 avR;have hr:=Ip (es:=List.replicate m.toNat zero) hs ho sS VU Tp v1.kx (by rw[DW,List.length_replicate];exact hA) rows cells (by simpa using h.2);simp only[List.length_replicate]at hr;exact bu hr
  ·rename_i h' L off len;cases cD:hp[h']? with
   |none=>simp[cD]at h
   |some ob=>
    simp only[cD]at h|-;obtain⟨h0,hk,MU,rfl,rfl,rfl,hlen⟩:=h;have hA:=App.ae2 (P:=P) (w:=w) (ty:=o.type) Gl hu hi To sK VU Tp h0 (by omega) avR;have hr:=Iq (es:=List.replicate m.toNat zero) hs ho sS VU Tp (by rw[DW,List.length_replicate];exact hA) rows cells cD hk MU v1 (by simpa using hlen);simp only[List.length_replicate]at hr;exact bu hr
 ·rename_i e hh zero;simp only[aw]at h|-;revert h;cases h0:hp[hh]? with
  |none=>intro hx;exact hx.elim
  |some o0=>
   intro hx;cases hi:P.info? e with
   |none=>simp[hi]at hm
   |some i=>
    simp only[hi]at hm;cases hz:i.zero with
    |none=>simp[hz]at hm
    |some z=>
     simp only[hz]at hm;exact bu (azv hs ho hi hz hm h0 hx.1 hx.2)
 ·exact bu (avS hs ho hf hm h)
 ·exact bu (asx hs ho hf hm h)
 ·rename_i xs ts z s x;simp only[Bool.and_eq_true]at hm;obtain⟨z5,Ed⟩:=hm;obtain⟨s1,x1,sS,h1,h2⟩:=x8 z5;split at Ed;rotate_left
  ·cases Ed
  rename_i t u uS;obtain rfl:=FG uS;simp only[Bool.and_eq_true]at Ed;obtain⟨h3,h4⟩:=Ed;obtain⟨e,ti,zv,Gl,hi,To,rfl,sK,VU,Tp⟩:=ya h3;have v1:=aE hf h1;have Dc:(∃e',P.underlying u=some (.slice e'))\/P.underlying u=some .string:=by
   split at h4
   ·rename_i e' he';exact .inl ⟨e',he'⟩
   ·rename_i he';exact .inr he'
   ·cases h4
  simp only[aw,sN]at h|-;cases he:s.ev fr<;>simp only[he,no]at h v1|- <;>try exact h.elim
  ·obtain⟨news,Dd,mF,uE⟩:=alJ (P:=P) hs (aE hf h2) h.1 sK h.2.2 Dc;exact bu (Ip hs ho sS VU Tp v1.kx (App.aqn Gl hi To Dd) mF uE h.2.1)
  ·rename_i h' L off len;cases cD:hp[h']? with
   |none=>simp[cD]at h
   |some ob=>
    simp only[cD]at h|-;obtain⟨nq,hz,hk,MU,rfl,rfl,rfl,hlen⟩:=h;obtain⟨news,Dd,mF,uE⟩:=alJ (P:=P) hs (aE hf h2) nq sK hz Dc;exact bu (Iq hs ho sS VU Tp (App.aqn Gl hi To Dd) mF uE cD hk MU v1 hlen)
 ·rename_i xs ts z s x;simp only[Bool.and_eq_true]at hm;obtain⟨z5,Ed⟩:=hm;obtain⟨s1,x1,sS,h1,h2⟩:=x8 z5;split at Ed;rotate_left
  ·cases Ed
  rename_i t u uS;obtain rfl:=FG uS;simp only[Bool.and_eq_true]at Ed;obtain⟨h3,_⟩:=Ed;obtain⟨e,ti,zv,Gl,hi,To,rfl,sK,VU,Tp⟩:=ya h3;have v1:=aE hf h1;simp only[aw]at h|-;cases he:s.ev fr<;>simp only[he,no]at h v1|- <;>try exact h.elim
  rename_i h' L off len;cases cD:hp[h']? with
  |none=>simp[cD]at h
  |some ob=>
   simp only[cD]at h|-;obtain⟨R0,nq,hz,hk,MU,rfl,Lg⟩:=h;have M7:∀b,x.ev fr≠ .str b:=by intro b hb;simp[hb]at R0
   obtain⟨news,l1,l2,l3,l4,l5⟩:=alK (P:=P) hs (aE hf h2) nq M7 sK hz (m:=min (bf hp (x.ev fr)).es.length len) (Nat.min_le_left _ _);exact bu (asy hs ho sS Gl hi l1 l2 l3 l4 (λk r hr=>hz r (List.mem_of_getElem? hr)) l5 cD hk MU v1 Lg)
 ·rename_i x i i' y;simp only[Bool.and_eq_true,beq_iff_eq]at hm;obtain⟨rfl,h1⟩:=hm;simp only[aw]at h|-;cases he:y.ev fr<;>simp only[he,no]at h|- <;>try exact h.elim
  exact(ag9 ho hf h1 he h).meets hs
 ·rename_i x y;have hv:=aE hf hm;simp only[aw]at h|-;cases he:y.ev fr<;>simp only[he,no]at h hv|- <;>try exact h.elim
  ·obtain⟨ob,g,cD,hk,hL,hg,e1⟩:=KJ hv h;exact(Nw ho rfl (.inl ⟨_,e1⟩) hv).meets hs
  ·obtain⟨b,e1,_⟩:=hv.nz.nz;exact(Nw ho rfl (.inl ⟨_,e1⟩) hv).meets hs
  ·obtain⟨vs,e1,_⟩:=hv.B8;exact(Nw ho rfl (.inr ⟨_,_,_,e1⟩) hv).meets hs
  ·obtain⟨vs,e1,_⟩:=hv.Qe;exact(Nw ho rfl (.inr ⟨_,_,_,e1⟩) hv).meets hs
 ·rename_i f fst caps g ZN;simp only[Bool.and_eq_true,beq_iff_eq]at hm;obtain⟨⟨rfl,h2⟩,h3⟩:=hm;exact(aoZ ho h2 hf h3).meets hs
 ·rename_i f xs ts g ys;simp only[Bool.and_eq_true,beq_iff_eq]at hm;obtain⟨rfl,h1⟩:=hm;obtain⟨lI,hc⟩:=KN hC hs (mg hf h1) h;exact jr (by simpa using ry (P:=P) (w:=w) (x:= .func f) (caps:= #[]) ho rfl lI) hc
 ·exact h.elim
 ·rename_i f xs ts g ys;simp only[Bool.and_eq_true,beq_iff_eq]at hm;obtain⟨rfl,h1⟩:=hm;obtain⟨lI,hc⟩:=hC.h _ _ _ h;exact jr (by simpa using ry (P:=P) (w:=w) (x:= .func f) (caps:= #[]) ho rfl lI) (hc K F σ w _ hs (mg hf h1))
 ·rename_i f xs ts g ys;simp only[Bool.and_eq_true,beq_iff_eq]at hm;obtain⟨rfl,h1⟩:=hm;simp only[aw]at h|-;obtain⟨lI,hc⟩:=hC.h _ _ _ h.1;exact jr (by simpa using ry (P:=P) (w:=w) (x:= .func f) (caps:= #[]) ho rfl lI) (hc K F σ w _ hs (mg hf h1))
 ·rename_i f xs ts b z g ys;simp only[Bool.and_eq_true,beq_iff_eq]at hm;obtain⟨rfl,h1⟩:=hm;simp only[aw]at h|-;cases e1:uT (get b fr)with
  |none=>simp[e1,no]at h
  |some n=>
   simp only[e1]at h|-;cases e2:hp[n]? with
   |none=>simp[e2,no]at h
   |some ob=>
    simp only[e2]at h|-;cases e4:(C.h f (ys.map (·.ev fr)) (List.replicate n ⟨.dead,0,[]⟩++[ob])).hp[n]? with
    |none=>simp[e4,no]at h
    |some o'=>
     simp only[e4]at h|-;obtain⟨_,q1,q2,q3,q4,q5,q6,q7,q8⟩:=h;obtain⟨lI,hc⟩:=hC.h _ _ _ q2;have Nu:(List.replicate n (⟨.dead,0,[]⟩:ak)++[ob])[n]? =some ob:=by rw[List.getElem?_append_right (by simp)];simp
     have kJ:=mg hf h1;have acY:dS (aB F σ (List.replicate n ⟨.dead,0,[]⟩++[ob]) w) (ys.map (·.ev fr)) (xs.map a.eval).toList:=
      ⟨kJ.1,λj d hd=>let⟨u,hu,hr⟩:=kJ.2 j d hd;⟨u,hu,ZF e2 Nu (List.all_eq_true.1 q1 d (List.mem_of_getElem? hd)) hr⟩⟩
     refine jr (by simpa using ry (P:=P) (w:=w) (x:= .func f) (caps:= #[]) ho rfl lI) ((hc (Oth K σ hp n) F σ w _ (ZG hs e2 q3 q4) acY).mono λe w' hh=> ?_);obtain⟨v,hv,hgv⟩:=hh;exact⟨v,hv,alA hs e2 q3 e4 q5 q6 q7 q8 hgv⟩
 ·rename_i f xs ts hh b z g ys;simp only[Bool.and_eq_true,beq_iff_eq]at hm;obtain⟨rfl,h1⟩:=hm;simp only[aw]at h|-;cases e1:uT (get b fr)with
  |none=>simp[e1,no]at h
  |some k=>
   simp only[e1]at h|-;cases e2:hp[k]? with
   |none=>simp[e2,no]at h
   |some ob=>
   cases e3:hp[hh]? with
   |none=>simp[e2,e3,no]at h
   |some od=>
    simp only[e2,e3]at h|-;cases e5:(C.h f (ys.map (·.ev fr)) (List.replicate k ⟨.dead,0,[]⟩++[ob])).val<;>simp only[e5,no]at h|- <;>try exact h.elim
    rename_i n L off len;cases e4:(C.h f (ys.map (·.ev fr)) (List.replicate k ⟨.dead,0,[]⟩++[ob])).hp[k]? with
    |none=>simp[e4]at h
    |some o'=>
    cases e6:(C.h f (ys.map (·.ev fr)) (List.replicate k ⟨.dead,0,[]⟩++[ob])).hp[n]? with
    |none=>simp[e4,e6]at h
    |some oj=>
     simp only[e4,e6]at h|-;obtain⟨_,q1,q2,q3,q4,q5,q6,q7,q8,q9,q10,q11,q12,q13⟩:=h;obtain⟨lI,hc⟩:=hC.h _ _ _ q2;have Nu:(List.replicate k (⟨.dead,0,[]⟩:ak)++[ob])[k]? =some ob:=by rw[List.getElem?_append_right (by simp)];simp
     have kJ:=mg hf h1;have acY:dS (aB F σ (List.replicate k ⟨.dead,0,[]⟩++[ob]) w) (ys.map (·.ev fr)) (xs.map a.eval).toList:=
      ⟨kJ.1,λj d hd=>let⟨u,hu,hr⟩:=kJ.2 j d hd;⟨u,hu,ZF e2 Nu (List.all_eq_true.1 q1 d (List.mem_of_getElem? hd)) hr⟩⟩
     refine jr (by simpa using ry (P:=P) (w:=w) (x:= .func f) (caps:= #[]) ho rfl lI) ((hc (Oth K σ hp k) F σ w _ (ZG hs e2 q3 q4) acY).mono λe w' hh=> ?_);obtain⟨v,hv,hgv⟩:=hh;rw[e5]at hgv;refine⟨v,hv,?_⟩;by_cases hL:L=0
     ·rw[if_pos hL,if_pos hL];obtain rfl:=q13 hL;subst hL;obtain⟨F',σ',g1,g2,g3,g4⟩:=hgv;exact alA hs e2 q3 e4 q5 q6 q7 rfl ⟨F',σ',g1,g2,g3,aoR g4 e6 q11 q12⟩
     ·rw[if_neg hL,if_neg hL];exact aoS hs e2 q3 e4 q5 q6 q7 e3 q8 q9 q10 e6 q11 q12 hL hgv
 ·rename_i x xs ts g ys;simp only[Bool.and_eq_true]at hm;obtain⟨h0,h1⟩:=hm;have hv:=aE hf h0;simp only[aw]at h|-;cases he:g.ev fr<;>simp only[he,no]at h hv|- <;>try exact h.elim
  ·rename_i f caps;obtain⟨vs,e1,hl,hr⟩:=hv.B8;have kJ:dS (aB F σ hp w) (ys.map (·.ev fr)++caps) (xs.map a.eval++vs).toList:=by rw[Array.toList_append];exact(mg hf h1).append ⟨by simpa using hl,λj d hd=>let⟨u,hu,hr⟩:=hr j d hd;⟨u,by simpa using hu,hr⟩⟩
   obtain⟨lI,hc⟩:=KN hC hs kJ h;exact jr (ry (P:=P) (w:=w) ho e1 lI) hc
  ·rename_i f fst;obtain⟨vs,e1,hl,hr⟩:=hv.Qe;have kJ:dS (aB F σ hp w) (fst++ys.map (·.ev fr)) (vs++xs.map a.eval).toList:=by rw[Array.toList_append];exact dS.append ⟨by simpa using hl,λj d hd=>let⟨u,hu,hr⟩:=hr j d hd;⟨u,by simpa using hu,hr⟩⟩ (mg hf h1)
   obtain⟨lI,hc⟩:=KN hC hs kJ h;exact jr (Tq (P:=P) (w:=w) ho e1 lI) hc
 ·rename_i x xs ts g ys;simp only[Bool.and_eq_true]at hm;obtain⟨h0,h1⟩:=hm;have hv:=aE hf h0;simp only[aw]at h|-;cases he:g.ev fr<;>simp only[he,no]at h hv|- <;>try exact h.elim
  ·rename_i f caps;obtain⟨vs,e1,hl,hr⟩:=hv.B8;have kJ:dS (aB F σ hp w) (ys.map (·.ev fr)++caps) (xs.map a.eval++vs).toList:=by rw[Array.toList_append];exact(mg hf h1).append ⟨by simpa using hl,λj d hd=>let⟨u,hu,hr⟩:=hr j d hd;⟨u,by simpa using hu,hr⟩⟩
   obtain⟨lI,hc⟩:=hC.h _ _ _ h;exact jr (ry (P:=P) (w:=w) ho e1 lI) (hc K F σ w _ hs kJ)
  ·rename_i f fst;obtain⟨vs,e1,hl,hr⟩:=hv.Qe;have kJ:dS (aB F σ hp w) (fst++ys.map (·.ev fr)) (vs++xs.map a.eval).toList:=by rw[Array.toList_append];exact dS.append ⟨by simpa using hl,λj d hd=>let⟨u,hu,hr⟩:=hr j d hd;⟨u,by simpa using hu,hr⟩⟩ (mg hf h1)
   obtain⟨lI,hc⟩:=hC.h _ _ _ h;exact jr (Tq (P:=P) (w:=w) ho e1 lI) (hc K F σ w _ hs kJ)
 ·rename_i t;exact bu (ao0 hs ho)
 ·rename_i t x i ok m k;simp only[Bool.and_eq_true,Bool.not_eq_true']at hm;obtain⟨⟨⟨rfl,h2⟩,h3⟩,h4⟩:=hm;simp only[aw]at h|-;cases e1:fG hp (m.ev fr)with
  |none=>simp[e1,no]at h
  |some es=>
   have v2:=aE hf h4;cases e2:k.ev fr<;>simp only[e1,e2,no]at h v2|- <;>try exact h.elim
   exact bu (asz hs ho h2 (aE hf h3) v2.ny e1)
 ·rename_i t x i y m k z;exact alB hs hf (.inl ho) hm h
 ·rename_i t x i y m k z;exact alB hs hf (.inr ho) hm h
 ·rename_i t x t' y;simp only[Bool.and_eq_true,beq_iff_eq]at hm;obtain⟨⟨rfl,h2⟩,h3⟩:=hm;exact bu (asA hs ho h2 (aE hf h3) h)
 ·rename_i x xt t ok t' z y;simp only[Bool.and_eq_true,beq_iff_eq]at hm;obtain⟨⟨⟨⟨rfl,rfl⟩,h2⟩,h3⟩,h4⟩:=hm;split at h3;rotate_left
  ·cases h3
  rename_i ti hi;split at h3;rotate_left
  ·cases h3
  rename_i zv hz;have v1:=aE hf h4;simp only[aw]at h|-;cases e1:y.ev fr<;>simp only[e1,no]at h v1|- <;>try exact h.elim
  have hzr:=(v5 (F:=F) (w:=w) h3);refine bu (asB hs ho h2 hi hz ?_ v1);obtain⟨u,hu,hr⟩:=hzr.2 0 z rfl;simp at hu;subst hu;exact .aN hr.1
 ·exact h.elim
 ·cases hm
theorem Tr [Inhabited Env](hC:C.ok P)(hs:bF K F σ hp w)(hf:jq F σ hp w fr a.tmps){op:Op}{d}(ho:o.op=op)(hm:Qf P op d=true):
 (aC C d ⟨fr,hp⟩).pre->Qc P o a w (λv w'=>dM K F σ hp w (aC C d ⟨fr,hp⟩).val (aC C d ⟨fr,hp⟩).hp v w'):=by
 cases d;case im d=>
  intro h;simp only[Qf,Bool.and_eq_true,decide_eq_true_eq]at hm;simp only[aC]at h|-;obtain⟨e1,e2,e3⟩:=V1 C d fr [] hp hm.1 h.2;rw[List.nil_append]at e1 e2 e3;have:=rp (P:=P) (K:=K) hC hs hf ho hm.2 e1;rw[e2,e3]at this;exact this
 case rk lo d=>
  intro h;simp only[aC]at h|-;have:=rp (P:=P) (K:=K) hC hs hf ho hm h.1;rw[h.2.2]at this;exact this
 case tk b lo d=>
  intro h;simp only[aC]at h|-;exact rp (P:=P) (K:=K) hC hs hf ho hm h.1
 case fz d=>
  intro h;simp only[aC]at h|-;have:=rp (P:=P) (K:=K) hC hs hf ho hm h.1;intro Kn Q hK;refine this Kn Q λv w' hg=> ?_;obtain⟨F',σ',s1,m1,h1,r1⟩:=hg;obtain⟨F'',f,rr⟩:=Il s1 r1 h.2;exact hK v w' ⟨F'',σ',f.1,m1.trans f.2.1,h1.trans f.2.2,rr.bare⟩
 case rz z d=>
  intro h;simp only[Qf,Bool.and_eq_true,decide_eq_true_eq]at hm;simp only[aC]at h|-;have:=rp (P:=P) (K:=K) hC hs hf ho hm.2 h.1;have e3:=(V1 C d fr hp [] hm.1 h.1).2.2;rw[List.append_nil]at e3;rw[e3]at this;exact this
 case rd d=>
  intro h;simp only[aC]at h|-;have:=rp (P:=P) (K:=K) hC hs hf ho hm h.1;rw[h.2]at this;exact this
 case to b d=>
  intro h;simp only[aC]at h|-;exact rp (P:=P) (K:=K) hC hs hf ho hm h.1
 all_goals exact rp hC hs hf ho hm
end
end Go.Nk
set_option linter.all false
namespace Go.Nk
open Go.RowKit
def Marks(K0 K F:Nat->Prop)(w:World):List Deferred->Prop
 |[]=>True
 |d::ds=>(∃D,d={target:= .collected D,args:= #[]}/\K D/\¬F D/\w.heap[D]? =some (.deferred (some []))/\¬K0 D/\d∉ds)/\Marks K0 K F w ds
def acV [Inhabited Env](K:Nat->Prop)(N:Nat)(F0:Nat->Prop)(σ0:Nat->Option Nat)(hp0:List ak)(w0:World)(K' F:Nat->Prop)(σ:Nat->Option Nat)(s:DS)(a:Act)(w:World):Prop:=
 (∀b,K b->K' b)/\bF K' F σ s.hp w/\jq F σ s.hp w s.fr a.tmps/\a.tmps.size=N/\Marks K K' F w a.defers/\iw K F0 w0 F w/\HM F0 σ0 hp0 w0 F σ s.hp w
def uZ [Inhabited Env](K:Nat->Prop)(N:Nat)(F0:Nat->Prop)(σ0:Nat->Option Nat)(hp0:List ak)(w0:World)(s:DS)(a:Act)(w:World):Prop:=
 ∃K' F σ,acV K N F0 σ0 hp0 w0 K' F σ s a w
theorem Marks.move{K0 K F F'}{w w'}(hm:iw K F w F' w'):∀{ds:List Deferred},Marks K0 K F w ds->Marks K0 K F' w' ds
 |[],_=>trivial
 |d::ds,h=>by obtain⟨⟨D,h1,h2,h3,h4,h5⟩,h6⟩:=h;exact⟨⟨D,h1,h2,λhF=>(hm.new D hF).elim h3 (λh=>h h2),(hm.qa D h2).trans h4,h5⟩,h6.move hm⟩
theorem iw.weak{K K' F F'}{w w'}(hK:∀b,K b->K' b)(h:iw K' F w F' w'):iw K F w F' w':=
 ⟨h.os,h.tape,h.output,h.size,λb hb=>h.qa b (hK b hb),h.bS,h.mono,λb hb=>(h.new b hb).imp id λh hk=>h (hK b hk)⟩
theorem bF.weak [Inhabited Env]{K K' F}{σ}{hp}{w}(hK:∀b,K b->K' b)(h:bF K' F σ hp w):bF K F σ hp w:=by
 refine⟨λi o ho=> ?_,h.inj,h.fb,λb hb=>h.kb b (hK b hb),h.mf⟩;have old:=h.obj i o ho;unfold fT at old|-;split
 ·trivial
 ·rename_i fE;rw[fE]at old;dsimp only at old;exact old.imp id λ⟨g,h1,h2,h3,h4⟩=>⟨g,h1,h2,λhk=>h3 (hK g hk),h4⟩
 ·rename_i fE;rw[fE]at old;dsimp only at old;exact old
 ·rename_i fE;rw[fE]at old;dsimp only at old;obtain⟨g,h1,h2,h3,h4⟩:=old;exact⟨g,h1,h2,λhk=>h3 (hK g hk),h4⟩
 ·rename_i fE;rw[fE]at old;dsimp only at old;obtain⟨h0,g,h1,h2,h3,h4⟩:=old;exact⟨h0,g,h1,h2,λhk=>h3 (hK g hk),h4⟩
theorem ZO{es}{i j}{d}(h:cellAt es i j=some d):∃e,es[i]? =some e/\e[j]? =some d:=by
 unfold cellAt at h;cases he:es[i]? with
 |none=>simp[he]at h
 |some e=>exact⟨e,rfl,by simpa[he]using h⟩
section
variable {P:Program} {K F0:Nat->Prop} {σ0:Nat->Option Nat} {hp0:List ak} {N:Nat} {w0:World} {C:jL}
theorem jq.put{F F'}{σ σ'}{hp cJ}{w w'}{fr}{a:Act}(hf:jq F σ hp w fr a.tmps)(hm:HM F σ hp w F' σ' cJ w')
 {dst} {d} {v} (hd:∀t,dst=some t->t<a.tmps.size) (hv:aB F' σ' cJ w' d v):jq F' σ' cJ w' (DS.put ⟨fr,hp⟩ dst ⟨True,d,cJ⟩).fr (a.put dst v).tmps:=by
 intro n;cases dst with
 |none=>exact(hf n).mono hm
 |some t=>
  simp only[DS.put,cw,Act.put];by_cases hn:n=t
  ·subst hn;rw[if_pos rfl];have:=hd n rfl;simp[Array.getD,this];exact hv
  ·rw[if_neg hn];have e:(a.tmps.setIfInBounds t v).getD n undef=a.tmps.getD n undef:=by simp[Array.getElem?_setIfInBounds_ne (Ne.symm hn)]
   rw[e];exact(hf n).mono hm
theorem uZ.put [Inhabited Env]{s:DS}{a:Act}{w w'}{K' F F'}{σ σ'}{cJ}{dst}{d}{v}(hK:∀b,K b->K' b)(hf:jq F σ s.hp w s.fr a.tmps)(hN:a.tmps.size=N)(pT:Marks K K' F w a.defers)(yU:iw K F0 w0 F w)(yV:HM F0 σ0 hp0 w0 F σ s.hp w)
 (hd:∀t,dst=some t->t<N) (h1:bF K' F' σ' cJ w') (h2:iw K' F w F' w') (h3:HM F σ s.hp w F' σ' cJ w') (h4:aB F' σ' cJ w' d v):uZ K N F0 σ0 hp0 w0 (s.put dst ⟨True,d,cJ⟩) (a.put dst v) w':=by
 refine⟨K',F',σ',hK,?_,?_,?_,?_,yU.trans (h2.weak hK),?_⟩
 ·cases dst<;>exact h1
 ·have:=hf.put h3 (dst:=dst) (λt ht=>by rw[hN];exact hd t ht) h4;cases dst<;>exact this
 ·cases dst<;>simp[Act.put,hN]
 ·cases dst<;>exact pT.move h2
 ·cases dst<;>exact yV.trans h3
theorem ae3(s:DS)(dst)(r:sj):s.put dst r=s.put dst ⟨True,r.val,r.hp⟩:=by cases dst<;>rfl
theorem Qg{F}{σ}{hp}{w}{fr}{a:Act}{ops:Array Oper}{j t}(hf:jq F σ hp w fr a.tmps)(ht:(ops[j]?).bind (·.dst)=some t):
 (∀b,get t fr= .bool b->yielded ops a.tmps j=some b)/\(get t fr= .cy []->yielded ops a.tmps j=none):=by
 have hv:=hf t;have lH:a.tmps.getD t undef=(a.tmps[t]?).getD undef:=by simp
 refine⟨λb hb=> ?_,λhb=> ?_⟩
 ·rw[hb]at hv;have:=hv.iO;unfold yielded;rw[ht];rw[lH]at this;cases hh:a.tmps[t]? with
  |none=>rw[hh]at this;simp[undef]at this
  |some v=>rw[hh]at this;simp at this;subst this;simp[hh]
 ·rw[hb]at hv;obtain⟨vs,e,_⟩:=hv.Ik;unfold yielded;rw[ht];rw[lH]at e;cases hh:a.tmps[t]? with
  |none=>simp[hh]
  |some v=>rw[hh]at e;simp at e;subst e;simp[hh]
theorem P4 [Inhabited Env](hC:C.ok P){ops:Array Oper}{o:Oper}{d}(hm:Ig P N ops o d=true){s}{a:Act}{w}(pM:uZ K N F0 σ0 hp0 w0 s a w){Kd}(h:pK C d s Kd)
 {Kn} {Q:Exit->Act->World->Prop} (hK:∀s' a' w',uZ K N F0 σ0 hp0 w0 s' a' w'->Kd s'->Kn a' w'):
 if Region.wanted o (yielded ops a.tmps)=true then o.wp P a w Kn Q else Kn (a.put o.dst undef) w:=by
 simp only[Ig,Bool.and_eq_true,decide_eq_true_eq]at hm;obtain⟨⟨⟨ZP,ZQ⟩,fM⟩,hg⟩:=hm;have avU:∀t,d.dst=some t->t<N:=λt ht=>by rw[ht]at fM;simpa using fM
 obtain⟨K',F,σ,C8,hs,hf,hN,pT,yU,yV⟩:=pM;have run:(aC C d.op s).pre->(Kd (s.put d.dst (aC C d.op s)))->o.wp P a w Kn Q:=by intro hp hk;have:=Tr (P:=P) (K:=K') hC hs hf (o:=o) rfl ZP hp;refine this Kn Q λv w' hgv=> ?_;obtain⟨F',σ',h1,h2,h3,h4⟩:=hgv;rw[ZQ];refine hK _ _ _ ?_ hk;rw[ae3];exact uZ.put C8 hf hN pT yU yV avU h1 h2 h3 h4
 have skip:Kd (s.put d.dst ⟨True,.cy [],s.hp⟩)->Kn (a.put o.dst undef) w:=by intro hk;rw[ZQ];exact hK _ _ _ (uZ.put C8 hf hN pT yU yV avU hs (.refl _ _ _) (.refl _ _ _ _) (.cy [] #[] rfl (λ_=>undef) (λj d hd=>by simp at hd) (λj d hd=>by simp at hd))) hk
 unfold pK at h;cases hgd:d.guard with
 |none=>
  rw[hgd]at h hg;have ho:o.guard=none:=by
   cases hh:o.guard with
   |none=>rfl
   |some x=>rw[hh]at hg;simp[FH]at hg
  rw[if_pos (by simp[Region.wanted,ho])];exact run h.1 h.2
 |some gb=>
  obtain⟨t,b⟩:=gb;rw[hgd]at h hg;cases hh:o.guard with
  |none=>rw[hh]at hg;simp[FH]at hg
  |some x=>
   obtain⟨j,b'⟩:=x;rw[hh]at hg;simp only[FH,Bool.and_eq_true,decide_eq_true_eq,beq_iff_eq]at hg;obtain⟨ht,rfl⟩:=hg;obtain⟨y1,y2⟩:=Qg hf ht;dsimp only at h;cases JU:get t s.fr with
   |bool c=>
    simp only[JU]at h;have hy:=y1 c JU;simp only[Region.wanted,hh,hy];by_cases hcb:c=b'
    ·subst hcb;simp only[if_true]at h;rw[if_pos (by simp)];exact run h.1 h.2
    ·rw[if_neg hcb]at h;rw[if_neg (by simpa using hcb)];exact skip h
   |cy vs=>
    cases vs with
    |nil=>
     simp only[JU]at h;have hy:=y2 JU;simp only[Region.wanted,hh,hy];rw[if_neg (by simp)];exact skip h
    |cons=>simp only[JU]at h
   |_=>simp only[JU]at h
theorem Bs{m}:∀{cs:List DV},DV.HH m cs=true->∀(j:Nat) (d:DV),cs[j]? =some d->d.rR m=true
 |[],_,j,d,h=>by simp at h
 |c::cs,h,j,d,hd=>by
  simp only[DV.HH,Bool.and_eq_true]at h;cases j with
  |zero=>simp at hd;subst hd;exact h.1
  |succ j=>exact Bs h.2 j d (by simpa using hd)
theorem yX{hp:List ak}{m h}{o}(ho:((hp.take m).map (ak.cut m))[h]? =some o):h<m/\∃o0,hp[h]? =some o0/\o=o0.cut m:=by
 rw[List.getElem?_map,List.getElem?_take]at ho;split at ho
 ·rename_i hl;cases hh:hp[h]? with
  |none=>simp[hh]at ho
  |some o0=>simp[hh]at ho;exact⟨hl,o0,rfl,ho.symm⟩
 ·simp at ho
theorem ff(m)(o:ak):(o.cut m).k=o.k/\(o.cut m).z=o.z/\(o.cut m).es.length=o.es.length:=by unfold ak.cut;split<;>simp
theorem aB.cut{F}{σ}{hp:List ak}{w}{m}{d:DV}{v}(h:aB F σ hp w d v):d.rR m=true->aB F σ ((hp.take m).map (ak.cut m)) w d v:=by
 induction h with
 |undef v=>intro _;exact .undef v
 |aN h=>intro _;exact .aN h
 |own h L off len v h1 hh ho=>
  intro hi;simp only[DV.rR,decide_eq_true_eq]at hi;refine .own h L off len v h1 (by simp;omega) λo cD=> ?_;obtain⟨_,o0,e1,rfl⟩:=yX cD;obtain⟨c1,c2,c3⟩:=ff m o0;rw[c1,c2,c3];exact ho o0 e1
 |ptr h L i j v h1 hh ho=>
  intro hi;simp only[DV.rR,decide_eq_true_eq]at hi;refine .ptr h L i j v h1 (by simp;omega) λo cD=> ?_;obtain⟨_,o0,e1,rfl⟩:=yX cD;obtain⟨c1,c2,c3⟩:=ff m o0;rw[c1,c2,c3];exact ho o0 e1
 |mp h v h1 hh ho=>
  intro hi;simp only[DV.rR,decide_eq_true_eq]at hi;refine .mp h v h1 (by simp;omega) λo cD=> ?_;obtain⟨_,o0,e1,rfl⟩:=yX cD;obtain⟨c1,c2,c3⟩:=ff m o0;rw[c1,c3];exact ho o0 e1
 |agg cs vs hl vv hv hr ih=>intro hi;exact .agg cs vs hl vv hv λj d hd=>ih j d hd (Bs hi j d hd)
 |cy cs vs hl vv hv hr ih=>intro hi;exact .cy cs vs hl vv hv λj d hd=>ih j d hd (Bs hi j d hd)
 |clo f cs vs hl vv hv hr ih=>intro hi;exact .clo f cs vs hl vv hv λj d hd=>ih j d hd (Bs hi j d hd)
 |zY f cs vs hl vv hv hr ih=>intro hi;exact .zY f cs vs hl vv hv λj d hd=>ih j d hd (Bs hi j d hd)
theorem aB.asj{F}{σ}{hp:List ak}{w}{d:DV}{v}(h:aB F σ hp w d v)(m):aB F σ ((hp.take m).map (ak.cut m)) w (d.cut m) v:=by
 unfold DV.cut;split
 ·rename_i hi;exact h.cut hi
 ·exact .undef v
theorem bF.cut [Inhabited Env]{F}{σ}{hp:List ak}{w}(hs:bF K F σ hp w)(m):bF K F σ ((hp.take m).map (ak.cut m)) w:=by
 refine⟨λh o ho=> ?_,λh h' o o' g e1 m1 e2 m2 s1 s2=> ?_,hs.fb,hs.kb,hs.mf⟩
 ·obtain⟨hl,o0,e1,rfl⟩:=yX ho;have old:=hs.obj h o0 e1;obtain⟨c1,c2,c3⟩:=ff m o0;unfold fT at old|-;rw[c1,c2];by_cases hk:o0.k= .loc
  ·rw[hk]at old|-;dsimp only at old|-;obtain⟨g,hg,nF,nK,c,ty,hh,KK,o5,Da⟩:=old;have VV:(o0.cut m).es=o0.es.map λr=>r.map (DV.cut m):=by simp[ak.cut,hk]
   refine⟨g,hg,nF,nK,c,ty,hh,by rw[c3];exact KK,λi e he=> ?_,λi j d hd=> ?_⟩
   ·rw[VV,List.getElem?_map]at he;cases hi:o0.es[i]? with
    |none=>simp[hi]at he
    |some r=>simp[hi]at he;subst he;simpa using o5 i r hi
   ·rw[VV]at hd;unfold cellAt at hd;rw[List.getElem?_map]at hd;cases hi:o0.es[i]? with
    |none=>simp[hi]at hd
    |some r=>
     simp[hi]at hd;obtain⟨d0,h0,rfl⟩:=hd;obtain⟨u,hu,hr⟩:=Da i j d0 (by simp[cellAt,hi,h0]);exact⟨u,hu,hr.asj m⟩
  ·have VV:(o0.cut m).es=o0.es:=by simp[ak.cut,hk]
   rw[VV];split at old<;>first|trivial|exact old|(rename_i fE;exact absurd fE hk)
 ·obtain⟨_,o0,f1,rfl⟩:=yX e1;obtain⟨_,o0',f2,rfl⟩:=yX e2;rw[(ff m o0).1]at m1;rw[(ff m o0').1]at m2;exact hs.inj _ _ _ _ _ f1 m1 f2 m2 s1 s2
theorem get_map(f:Nat->DV):∀(l:List Nat) (n:Nat),get n (l.map λt=>(t,f t))=if n∈l then f n else .undef
 |[],n=>by simp
 |t::l,n=>by
  simp only[List.map_cons,cw,get_map f l n,List.mem_cons];by_cases h:n=t
  ·subst h;simp
  ·simp[h]
theorem HM.cut{F}{σ}{hp:List ak}{w}(yV:HM F0 σ0 hp0 w0 F σ hp w){m}(hm:hp0.length<=m):HM F0 σ0 hp0 w0 F σ ((hp.take m).map (ak.cut m)) w:=by
 have hl:=yV.len;refine⟨yV.mono,yV.bS,by simp;omega,λh o ho=> ?_⟩;obtain⟨o',h1,h2,h3⟩:=yV.ob h o ho;have fM:=ck ho;refine⟨o'.cut m,?_,?_,?_⟩
 ·rw[List.getElem?_map,List.getElem?_take,if_pos (by omega),h1];rfl
 ·rw[(ff m o').2.2];exact h2
 ·rw[(ff m o').2.2,(ff m o').1,(ff m o').2.1];exact h3
theorem acV.cut [Inhabited Env]{K' F:Nat->Prop}{σ:Nat->Option Nat}{s:DS}{a:Act}{w:World}(h:acV K N F0 σ0 hp0 w0 K' F σ s a w)(live:List Nat)(m:Option Nat)(hm:match m with|some k=>hp0.length<=k|none=>True):acV K N F0 σ0 hp0 w0 K' F σ (s.cut live m) a w:=by
 obtain⟨C8,hs,hf,hN,pT,yU,yV⟩:=h;cases m with
 |none=>
  refine⟨C8,hs,λn=> ?_,hN,pT,yU,yV⟩;simp only[DS.cut];rw[get_map];split
  ·exact hf n
  ·exact .undef _
 |some m=>
  refine⟨C8,hs.cut m,λn=> ?_,hN,pT,yU,yV.cut hm⟩;simp only[DS.cut];rw[get_map];split
  ·exact(hf n).asj m
  ·exact .undef _
theorem uZ.cut [Inhabited Env]{s:DS}{a}{w}(h:uZ K N F0 σ0 hp0 w0 s a w)(live)(m)(hm:match m with|some k=>hp0.length<=k|none=>True):uZ K N F0 σ0 hp0 w0 (s.cut live m) a w:=
 let⟨K',F,σ,hx⟩:=h;⟨K',F,σ,hx.cut live m hm⟩
theorem uZ.rsv [Inhabited Env]{s:DS}{a}{w}(pM:uZ K N F0 σ0 hp0 w0 s a w):uZ K N F0 σ0 hp0 w0 ⟨s.fr,s.hp++[⟨.dead,0,[]⟩]⟩ a w:=by
 obtain⟨K',F,σ,C8,hs,hf,hN,pT,yU,yV⟩:=pM;have c1:Ir K' F σ s.hp w s.hp.length (⟨.dead,0,[]⟩:ak) F (λx=>if x=s.hp.length then none else σ x) (s.hp++[(⟨.dead,0,[]⟩:ak)]) w:=
  {os:=rfl,tape:=rfl,output:=rfl,size:=Nat.le_refl _,hF:=λ_ h=>h,newF:=λ_ h=> .inl h,Qh:=hs.fb,heap:=λb h _=>rfl,z8:= .inr ⟨rfl,rfl⟩
   sig:=λh' bw=>by simp[bw],Bt:=λg hg=>by simp at hg,grow:=λoh tg=>by simp at tg}
 have kB:=c1.sim hs trivial;have z5:=c1.hm hs;exact⟨K',F,_,C8,kB,λn=>(hf n).mono z5,hN,pT,yU.trans ((c1.yb hs).weak C8),yV.trans z5⟩
theorem uZ.H7 [Inhabited Env]{s:DS}{a}{w}(pM:uZ K N F0 σ0 hp0 w0 s a w){h i j}{o:ak}(z)(cD:s.hp[h]? =some o)(hk:o.k= .loc)(hi:i<o.es.length)(hcell:(o.es.getD i [])[j]? =some .nil):
 uZ K N F0 σ0 hp0 w0 ⟨s.fr,s.hp.set h {o with es:=o.es.set i ((o.es.getD i []).set j (.own s.hp.length 0 0 0))}++[⟨.aN,z,[]⟩]⟩ a w:=by
 obtain⟨K',F,σ,C8,hs,hf,hN,pT,yU,yV⟩:=pM;obtain⟨ok,oz,oes⟩:=o;dsimp only at hk hi hcell;subst hk;have hl:=ck cD;have c1:Ir K' F σ s.hp w s.hp.length (⟨.aN,z,[]⟩:ak) F (λx=>if x=s.hp.length then none else σ x) (s.hp++[(⟨.aN,z,[]⟩:ak)]) w:=
  {os:=rfl,tape:=rfl,output:=rfl,size:=Nat.le_refl _,hF:=λ_ h=>h,newF:=λ_ h=> .inl h,Qh:=hs.fb,heap:=λb h _=>rfl,z8:= .inr ⟨rfl,rfl⟩
   sig:=λh' bw=>by simp[bw],Bt:=λg hg=>by simp at hg,grow:=λoh tg=>by simp at tg}
 have kB:=c1.sim hs (.inl ⟨rfl,by simp⟩);have z5:=c1.hm hs;generalize (λx=>if x=s.hp.length then none else σ x)=σ1 at kB z5 c1;have asD:(s.hp++[(⟨.aN,z,[]⟩:ak)])[h]? =some ⟨.loc,oz,oes⟩:=by rw[List.getElem?_append_left hl];exact cD
 have lH:oes[i]? =some (oes.getD i []):=by simp[List.getD,hi]
 generalize pJ:oes.getD i []=row at*;have hold:=kB.obj h _ asD;unfold fT at hold;dsimp only at hold;obtain⟨g,hg,nF,nK,c,ty,hh,KK,o5,Da⟩:=hold;have c2:Ir K' F σ1 (s.hp++[(⟨.aN,z,[]⟩:ak)]) w h ⟨.loc,oz,oes.set i (row.set j (.own s.hp.length 0 0 0))⟩ F σ1 ((s.hp++[(⟨.aN,z,[]⟩:ak)]).set h ⟨.loc,oz,oes.set i (row.set j (.own s.hp.length 0 0 0))⟩) w:=
  {os:=rfl,tape:=rfl,output:=rfl,size:=Nat.le_refl _,hF:=λ_ h=>h,newF:=λ_ h=> .inl h,Qh:=kB.fb,heap:=λb h _=>rfl,z8:= .inl ⟨by simp;omega,rfl⟩
   sig:=λh' bw=>rfl,Bt:=λg hg=> .inl ⟨hg,_,asD,mA rfl⟩
   grow:=λoh tg=>by rw[asD]at tg;injection tg with e;subst e;exact⟨.inl (mA rfl),by simp,λ_ _=>⟨rfl,rfl,λ_ _=>rfl⟩⟩}
 have Ed:=c2.hm kB;have bw:h≠s.hp.length:=by omega
 have z6:=c2.sim kB (by
  unfold fT;refine⟨g,hg,nF,nK,c,ty,hh,by simpa using KK,λr e he=> ?_,λr k d hd=> ?_⟩
  ·rw[List.getElem?_set]at he;split at he
   ·rename_i e1;subst e1;injection he with he;rw[<-he,List.length_set];exact o5 i row lH
   ·exact o5 r e he
  ·obtain⟨e,he,hed⟩:=ZO hd;rw[List.getElem?_set]at he;split at he
   ·rename_i e1;subst e1;injection he with he;subst he;rw[List.getElem?_set]at hed;split at hed
    ·rename_i e2;subst e2;have hjl:=(List.getElem?_eq_some_iff.1 hcell).1;rw[if_pos hjl]at hed;injection hed with hed;subst hed;obtain⟨v,hv,hr⟩:=Da i j .nil (by unfold cellAt;rw[lH];exact hcell);refine⟨v,hv,?_⟩;rw[hr.kx];refine .own _ _ _ _ _ rfl (by simp) λob hb=> ?_;rw[List.getElem?_set_ne bw]at hb;have:ob=(⟨.aN,z,[]⟩:ak):=by simpa using hb.symm
     subst this;exact⟨by simp,λ_ _=>⟨none,0,rfl,Nat.le_refl _,.inl rfl⟩⟩
    ·obtain⟨v,hv,hr⟩:=Da i k d (by unfold cellAt;rw[lH];exact hed);exact⟨v,hv,hr.mono Ed⟩
   ·obtain⟨v,hv,hr⟩:=Da r k d (by unfold cellAt;rw[he];exact hed);exact⟨v,hv,hr.mono Ed⟩)
 have e:(s.hp++[(⟨.aN,z,[]⟩:ak)]).set h ⟨.loc,oz,oes.set i (row.set j (.own s.hp.length 0 0 0))⟩=s.hp.set h ⟨.loc,oz,oes.set i (row.set j (.own s.hp.length 0 0 0))⟩++[⟨.aN,z,[]⟩]:=by rw[List.set_append_left _ _ hl]
 rw[e]at z6 Ed;exact⟨K',F,σ1,C8,z6,λn=>((hf n).mono z5).mono Ed,hN,pT,yU,(yV.trans z5).trans Ed⟩
end
end Go.Nk
set_option linter.all false
namespace Go.Nk
open Go.RowKit
def DA.sl:DA->List Nat
 | .t n=>[n]
 | .c _=>[]
def slL(l:List DA):List Nat:=l.flatMap DA.sl
def slO(l:Option DA):List Nat:=match l with|some x=>x.sl|none=>[]
def aS.sl:aS->List Nat
 | .akE x| .acA x| .home _ x| .mv x| .mvf x| .uz _ x| .un _ x| .conv _ x| .b2s x| .PL _ x| .len x| .agK x| .load _ x| .pY _ x| .field _ _ x| .box x| .extract _ x| .p9 x=>x.sl
 | .pick a b c| .KB a b c=>a.sl++(b.sl++c.sl)
 | .Za _ x=>x.sl
 | .bin _ x y| .beq _ x y| .aeq _ _ x y| .Fv _ x y| .store _ x y| .pZ _ x y| .me _ _ x y| .index x y| .make _ x y| .append _ x y| .aoy _ _ x y| .copy _ x y| .Fx x y| .acz _ x y=>x.sl++y.sl
 | .slice _ x a b c=>x.sl++(slO a++(slO b++slO c))
 | .wR x a b=>x.sl++(slO a++slO b)
 | .ux _ _ ps=>ps.flatMap slO
 | .build _ ps=>ps.flatMap λp=>p.2.2.sl
 | .alloc _| .bad| .aa _ _| .H8=>[]
 | .uy _ xs| .p8 _ xs| .S7 _ xs| .ib _ xs| .v7 _ xs=>slL xs
 | .cl b _ _ xs| .clo _ b _ _ xs=>b::slL xs
 | .qt f xs| .KC f xs=>f.sl++slL xs
 | .im d| .rd d| .fz d=>d.sl
 | .rz _ d=>d.sl
 | .rk _ d=>d.sl
 | .tk b _ d=>b::d.sl
 | .to b d=>b::d.sl
def ae.looks(d:ae):List Nat:=d.op.sl++(match d.guard with|some (g,_)=>[g]|none=>[])
def P0(x y:ae):Bool:=
 (match x.dst with|some d=> !(y.looks).contains d&&y.dst !=some d|none=>true)&&
 (match y.dst with|some d=> !(x.looks).contains d|none=>true)
def acP(a b:Nat):Bool:=a==0||b==0||(a==1&&b==1)||(a==1&&b==2)||(a==2&&b==1)||(a==1&&(b==4||b==5))||(a==2&&b==4)||(a==7&&(b==7||b==1))||(a==1&&(b==7||b==10))
theorem gv{fr tf}{x:DA}(h:∀n∈x.sl,get n fr=get n tf):x.ev fr=x.ev tf:=by
 cases x with
 |t n=>exact h n (by simp[DA.sl])
 |c d=>rfl
def oI{fr tf}{xs:List DA}(h:∀n∈slL xs,get n fr=get n tf):=show xs.map (·.ev fr)=_ from List.map_congr_left λx hx=>gv λn hn=>h n (List.mem_flatMap.2 ⟨x,hx,hn⟩)
theorem tj{fr tf}{x:Option DA}(h:∀n∈slO x,get n fr=get n tf):x.map (·.ev fr)=x.map (·.ev tf):=by
 cases x with
 |none=>rfl
 |some x=>exact congrArg some (gv h)
theorem L0{fr tf}:∀(ps:List (Nat×Nat×DA)) (cells:List DV),(∀n∈ps.flatMap λp=>p.2.2.sl,get n fr=get n tf)->bZ cells fr ps=bZ cells tf ps
 |[],cells,_=>rfl
 |(off,n,x)::ps,cells,h=>by have hx:x.ev fr=x.ev tf:=gv λn hn=>h n (by simp[hn]);simp only[bZ,hx];rw[L0 ps _ λn hn=>h n (by simp only[List.flatMap_cons,List.mem_append];exact .inr hn)]
theorem mh(C)(d:aS){fr tf}(hp)(h:∀n∈d.sl,get n fr=get n tf):aw C d ⟨fr,hp⟩=aw C d ⟨tf,hp⟩:=by
 cases d;case ux aN zero ps=>
  have e:∀p∈ps,p.map (·.ev fr)=p.map (·.ev tf):=λp hp=>tj λn hn=>h n (List.mem_flatMap.2 ⟨p,hp,hn⟩);have e1:ps.map (wL fr zero)=ps.map (wL tf zero):=by
   refine List.map_congr_left λp hp=> ?_;have:=e p hp;cases p with
   |none=>rfl
   |some x=>simp at this;simp[wL,this]
  have e2:ps.all (bU fr zero)=ps.all (bU tf zero):=by
   have:∀p∈ps,bU fr zero p=bU tf zero p:=λp hp=>by
    have:=e p hp;cases p with
    |none=>rfl
    |some x=>simp at this;simp[bU,this]
   rw[Bool.eq_iff_iff,List.all_eq_true,List.all_eq_true];exact⟨λhh p hp=>(this p hp)▸hh p hp,λhh p hp=>(this p hp).symm▸hh p hp⟩
  simp only[aw,e1,e2]
 case build zero ps=>simp only[aw];rw[L0 ps zero h]
 case uy f xs=>simp only[aw];rw[oI h]
 case p8 f xs=>simp only[aw];rw[oI h]
 case S7 f xs=>simp only[aw];rw[oI h]
 case ib f xs=>simp only[aw];rw[oI h]
 case cl b z f xs=>
  have h1:get b fr=get b tf:=h b (by simp[aS.sl]);simp only[aw,h1];rw[oI λn hn=>h n (by simp[aS.sl,hn])]
 case clo hh b z f xs=>
  have h1:get b fr=get b tf:=h b (by simp[aS.sl]);simp only[aw,h1];rw[oI λn hn=>h n (by simp[aS.sl,hn])]
 case qt f xs=>
  have h1:f.ev fr=f.ev tf:=gv λn hn=>h n (by simp[aS.sl,hn]);simp only[aw,h1];rw[oI λn hn=>h n (by simp[aS.sl,hn])]
 case KC f xs=>
  have h1:f.ev fr=f.ev tf:=gv λn hn=>h n (by simp[aS.sl,hn]);simp only[aw,h1];rw[oI λn hn=>h n (by simp[aS.sl,hn])]
 case slice z x a b c=>
  have h1:x.ev fr=x.ev tf:=gv λn hn=>h n (by simp[aS.sl,hn]);simp only[aw,h1];rw[tj λn hn=>h n (by simp[aS.sl,hn]),tj (x:=b) λn hn=>h n (by simp[aS.sl,hn]),tj (x:=c) λn hn=>h n (by simp[aS.sl,hn])]
 case wR x a b=>
  have h1:x.ev fr=x.ev tf:=gv λn hn=>h n (by simp[aS.sl,hn]);simp only[aw,h1];rw[tj λn hn=>h n (by simp[aS.sl,hn]),tj (x:=b) λn hn=>h n (by simp[aS.sl,hn])]
 case pick a b c=>
  have h1:a.ev fr=a.ev tf:=gv λn hn=>h n (by simp[aS.sl,hn]);have h2:b.ev fr=b.ev tf:=gv λn hn=>h n (by simp[aS.sl,hn]);have h3:c.ev fr=c.ev tf:=gv λn hn=>h n (by simp[aS.sl,hn]);simp only[aw,h1,h2,h3]
 case KB a b c=>
  have h1:a.ev fr=a.ev tf:=gv λn hn=>h n (by simp[aS.sl,hn]);have h2:b.ev fr=b.ev tf:=gv λn hn=>h n (by simp[aS.sl,hn]);have h3:c.ev fr=c.ev tf:=gv λn hn=>h n (by simp[aS.sl,hn]);simp only[aw,h1,h2,h3]
 case H8=>rfl
 case alloc zero=>rfl
 case im d=>rfl
 case rd d=>rfl
 case rz z d=>rfl
 case to b d=>rfl
 case rk lo d=>rfl
 case tk b lo d=>rfl
 case bad=>rfl
 case v7 f xs=>rfl
 case aa hh zero=>rfl
 case fz d=>rfl
 all_goals
  first
  |(rename_i x y;have h1:x.ev fr=x.ev tf:=gv λn hn=>h n (by simp[aS.sl,hn]);have h2:y.ev fr=y.ev tf:=gv λn hn=>h n (by simp[aS.sl,hn]);simp only[aw,h1,h2];done)
  |(rename_i x;have h1:x.ev fr=x.ev tf:=gv λn hn=>h n (by simp[aS.sl,hn]);simp only[aw,h1];done)
theorem V5(lo)(d:aS){fr tf}(h:∀n∈d.sl,get n fr=get n tf):wT lo fr d=wT lo tf d:=by
 cases d<;>try rfl
 case load s x=>
  have h1:=gv λn hn=>h n hn;cases s<;>simp only[wT,h1]
theorem ac0(z)(d:aS){fr tf}(hp)(h:∀n∈d.sl,get n fr=get n tf):Mz z ⟨fr,hp⟩ d=Mz z ⟨tf,hp⟩ d:=by
 cases d<;>try rfl
 case load s x=>cases x<;>first|rfl|(simp only[Mz];rw[h _ (by simp[aS.sl,DA.sl])])
 case pY s x=>cases x<;>first|rfl|(simp only[Mz];rw[h _ (by simp[aS.sl,DA.sl])])
 case p9 x=>cases x<;>first|rfl|(simp only[Mz];rw[h _ (by simp[aS.sl,DA.sl])])
 case len x=>cases x<;>first|rfl|(simp only[Mz];rw[h _ (by simp[aS.sl,DA.sl])])
 case pZ n x y=>cases x<;>first|rfl|(simp only[Mz];rw[h _ (by simp[aS.sl,DA.sl])])
 case me n m x y=>cases x<;>first|rfl|(simp only[Mz];rw[h _ (by simp[aS.sl,DA.sl])])
theorem Zk(C)(d:aS){fr tf}(hp)(h:∀n∈d.sl,get n fr=get n tf):aC C d ⟨fr,hp⟩=aC C d ⟨tf,hp⟩:=by
 cases d;case im d=>simp only[aC];rw[mh C d [] h]
 case rd d=>simp only[aC];rw[mh C d hp h]
 case rz z d=>simp only[aC];rw[mh C d hp h,ac0 z d hp h]
 case fz d=>simp only[aC];rw[mh C d hp h]
 case rk lo d=>simp only[aC];rw[mh C d hp h,V5 lo d h]
 case tk b lo d=>simp only[aC];rw[mh C d hp λn hn=>h n (List.mem_cons_of_mem _ hn),h b (by simp[aS.sl])]
 case to b d=>simp only[aC];rw[mh C d hp λn hn=>h n (List.mem_cons_of_mem _ hn),h b (by simp[aS.sl])]
 all_goals exact mh C _ hp h
def aS.bl:aS->Nat
 | .im _=>0
 | .rd _=>7
 | .rz .. =>9
 | .to .. =>8
 | .fz _| .rk .. | .tk .. =>9
 |d=>d.kind
theorem uD{C}{d:aS}{s}(h:d.bl≠0/\d.bl≠7/\d.bl≠8/\d.bl≠9/\d.bl≠10):aC C d s=aw C d s:=by cases d<;>first|rfl|exact absurd rfl h.1|exact absurd rfl h.2.1|exact absurd rfl h.2.2.1|exact absurd rfl h.2.2.2.1|exact absurd rfl h.2.2.2.2
theorem rn{d:aS}(h:d.bl≠0/\d.bl≠7/\d.bl≠8/\d.bl≠9/\d.bl≠10):d.bl=d.kind:=by cases d<;>first|rfl|exact absurd rfl h.1|exact absurd rfl h.2.1|exact absurd rfl h.2.2.1|exact absurd rfl h.2.2.2.1|exact absurd rfl h.2.2.2.2
def alm(x y:ae):Bool:=P0 x y&&acP x.op.bl y.op.bl
def Fz(hp cJ:List ak):Prop:=
 hp.length=cJ.length/\∀(h:Nat) (o:ak),hp[h]? =some o->∃o',cJ[h]? =some o'/\o'.z=o.z/\o'.es=o.es/\(o'.k=o.k\/(o.k= .aN/\o'.k= .sY))
theorem Fz.refl(hp):Fz hp hp:=⟨rfl,λ_ o ho=>⟨o,ho,rfl,rfl,.inl rfl⟩⟩
theorem Fz.trans{a b c}(h:Fz a b)(k:Fz b c):Fz a c:=⟨h.1.trans k.1,λi o ho=>by
 obtain⟨o',h1,h2,h3,h4⟩:=h.2 i o ho;obtain⟨o'',k1,k2,k3,k4⟩:=k.2 i o' h1;refine⟨o'',k1,k2.trans h2,k3.trans h3,?_⟩;rcases h4 with h4|⟨h4,h5⟩
 ·rcases k4 with k4|⟨k4,k5⟩
  ·exact .inl (k4.trans h4)
  ·exact .inr ⟨h4▸k4,k5⟩
 ·rcases k4 with k4|⟨k4,k5⟩
  ·exact .inr ⟨h4,k4.trans h5⟩
  ·rw[h5]at k4;cases k4⟩
theorem Fz.get{hp cJ:List ak}(h:Fz hp cJ)(i:Nat):(hp[i]? =none/\cJ[i]? =none)\/∃o o',hp[i]? =some o/\cJ[i]? =some o'/\o'.z=o.z/\o'.es=o.es/\(o'.k= .dead↔o.k= .dead)/\(o'.k= .aN\/o'.k= .sY↔o.k= .aN\/o.k= .sY):=by
 cases hi:hp[i]? with
 |none=>
  left;refine⟨rfl,?_⟩;rw[List.getElem?_eq_none_iff]at hi|-;have:=h.1;omega
 |some o=>
  obtain⟨o',h1,h2,h3,h4⟩:=h.2 i o hi;refine .inr ⟨o,o',rfl,h1,h2,h3,?_,?_⟩
  ·rcases h4 with h4|⟨h4,h5⟩
   ·rw[h4]
   ·rw[h4,h5];simp
  ·rcases h4 with h4|⟨h4,h5⟩
   ·rw[h4]
   ·rw[h4,h5];simp
theorem Fz.alive{hp cJ:List ak}(h:Fz hp cJ)(i L:Nat):alive cJ i L↔alive hp i L:=by
 unfold Nk.alive;rcases h.get i with⟨h1,h2⟩|⟨o,o',h1,h2,hz,he,hd,hk⟩
 ·rw[h1,h2]
 ·rw[h1,h2];simp only[he,ne_eq,hd]
theorem Fz.elems{hp cJ:List ak}(h:Fz hp cJ)(d:DV):bf cJ d=bf hp d:=by
 unfold bf;split<;>try rfl
 rename_i i L off len;rcases h.get i with⟨h1,h2⟩|⟨o,o',h1,h2,hz,he,hd,hk⟩
 ·rw[h1,h2]
 ·rw[h1,h2];simp only[he];by_cases h3:o.k= .aN\/o.k= .sY
  ·rw[if_pos h3,if_pos (hk.2 h3)]
  ·rw[if_neg h3,if_neg (λe=>h3 (hk.1 e))]
theorem Fz.cells{hp cJ:List ak}(h:Fz hp cJ)(d:DV):aI cJ d=aI hp d:=by
 unfold aI;split<;>try rfl
 rename_i i L r j;rcases h.get i with⟨h1,h2⟩|⟨o,o',h1,h2,hz,he,hd,hk⟩
 ·rw[h1,h2]
 ·rw[h1,h2];simp only[he];by_cases h3:o.k= .dead
  ·rw[if_pos h3,if_pos (hd.2 h3)]
  ·rw[if_neg h3,if_neg (λe=>h3 (hd.1 e))]
theorem Fz.Uz{hp cJ}(h:Fz hp cJ)(d):fG cJ d=fG hp d:=by
 unfold fG;cases d<;>try rfl
 rename_i i;dsimp only;cases hi:hp[i]? with
 |none=>
  have:cJ[i]? =none:=by rw[List.getElem?_eq_none_iff]at hi|-;have:=h.1;omega
  rw[this]
 |some o=>
  obtain⟨o',h1,h2,h3,h4⟩:=h.2 i o hi;rw[h1];simp only[Option.bind_some];rcases h4 with h4|⟨h4,h5⟩
  ·rw[h4]
  ·rw[h4,h5];rfl
theorem avW(C)(d:aS)(fr)(hp)(hk:d.kind=0)(h:(aw C d ⟨fr,hp⟩).pre):
 (aw C d ⟨fr,hp⟩).hp=hp/\∀gh,(aw C d ⟨fr,gh⟩).pre/\(aw C d ⟨fr,gh⟩).val=(aw C d ⟨fr,hp⟩).val/\(aw C d ⟨fr,gh⟩).hp=gh:=by
 cases d<;>simp only[aS.kind,reduceCtorEq]at hk<;>simp only[aw]at h|-;case pick a b c=>split at h<;>simp_all [no]
 case conv k x=>split at h<;>simp_all [no]
 case agK x=>split at h<;>simp_all [no]
 case acA x=>split at h<;>simp_all [no]
 case Fv m x y=>split at h<;>simp_all [no]
 case field o s x=>split at h<;>simp_all [no]
 case index x y=>split at h<;>simp_all [no]
 case extract i x=>split at h<;>simp_all [no]
 case acz t z x=>split at h<;>simp_all [no]
 all_goals first|(simp;done)|(simp only[true_and,and_true,forall_const];exact h)|exact⟨rfl,λ_=>⟨h,rfl,rfl⟩⟩|exact⟨trivial,λ_=>⟨h,trivial,trivial⟩⟩
theorem alc(C)(d:aS)(fr)(hp)(hk:d.bl=0)(h:(aC C d ⟨fr,hp⟩).pre):
 (aC C d ⟨fr,hp⟩).hp=hp/\∀gh,(aC C d ⟨fr,gh⟩).pre/\(aC C d ⟨fr,gh⟩).val=(aC C d ⟨fr,hp⟩).val/\(aC C d ⟨fr,gh⟩).hp=gh:=by
 cases d;case im d=>exact⟨rfl,λgh=>⟨h,rfl,rfl⟩⟩
 case rd d=>cases hk
 case rz z d=>cases hk
 case to b d=>cases hk
 case rk lo d=>cases hk
 case tk b lo d=>cases hk
 case fz d=>cases hk
 all_goals exact avW C _ fr hp hk h
theorem ald(C:jL)(d:aS)(fr:List (Nat×DV))(hp gh:List ak)(hf:Fz hp gh)(hk:d.kind=1):
 (aw C d ⟨fr,gh⟩).pre=(aw C d ⟨fr,hp⟩).pre/\(aw C d ⟨fr,gh⟩).val=(aw C d ⟨fr,hp⟩).val/\((aw C d ⟨fr,hp⟩).pre->(aw C d ⟨fr,hp⟩).hp=hp/\(aw C d ⟨fr,gh⟩).hp=gh):=by
 cases d<;>simp only[aS.kind,reduceCtorEq,Nat.reduceEqDiff]at hk<;>simp only[aw];case b2s x=>rw[hf.elems];simp
 case Fx m k=>rw[hf.Uz];cases fG hp (m.ev fr)<;>cases k.ev fr<;>simp[no]
 case len x=>split<;>simp[hf.alive,no]
 case PL x=>split<;>simp[hf.alive,no]
 case load s x=>rw[hf.cells];simp
 case pY o x=>split<;>simp[hf.alive,no]
 case p9 x=>split<;>simp[hf.alive,no]
 case me n z x i=>split<;>simp[hf.alive,no]
 case pZ z x i=>
  split
  ·simp
  ·rename_i hh L off len k n e1 e2;rcases hf.get hh with⟨h1,h2⟩|⟨o,o',h1,h2,hz,he,hd,hk⟩
   ·simp[h1,h2,no]
   ·simp[h1,h2,hz,he,hd]
  ·simp[no]
 case slice z x a b c=>
  unfold nD;split
  ·simp
  ·rename_i hh L off len e1;rcases hf.get hh with⟨h1,h2⟩|⟨o,o',h1,h2,hz,he,hd,hk⟩
   ·simp[h1,h2]
   ·simp[h1,h2,hz,he,hd]
  ·simp
  ·simp
theorem Fz.je(hp)(h)(hk:∀o,hp[h]? =some o->o.k= .aN\/o.k= .sY):Fz hp (je hp h):=by
 unfold Nk.je;cases hh:hp[h]? with
 |none=>exact .refl _
 |some o=>
  refine⟨by simp,λi o' ey=> ?_⟩;by_cases hi:i=h
  ·subst hi;rw[hh]at ey;injection ey with e;subst e;refine⟨{o with k:= .sY},by simp[ck hh],rfl,rfl,?_⟩;rcases hk o hh with e|e
   ·exact .inr ⟨e,rfl⟩
   ·exact .inl e.symm
  ·exact⟨o',by dsimp only;rw[List.getElem?_set_ne (Ne.symm hi)];exact ey,rfl,rfl,.inl rfl⟩
theorem ac1(hp)(d)(h:(hH hp d).pre):Fz hp (hH hp d).hp:=by
 unfold hH at h|-;split at h
 ·rename_i h' L off len;refine Fz.je hp h' λo ho=> ?_;simp only[bf,ho]at h;split at h
  ·rename_i hk;exact hk
  ·exact h.elim
 ·exact .refl _
 ·exact .refl _
 ·split at h
  ·rename_i hi;rw[if_pos hi];exact .refl _
  ·exact h.elim
theorem ac2:∀(ds:List DV) (hp:List ak),(tJ hp ds).pre->Fz hp (tJ hp ds).hp
 |[],_,_=> .refl _
 |d::ds,hp,h=>(ac1 hp d h.1).trans (ac2 ds _ h.2)
theorem ac3(hp)(d)(h:(iq hp d).pre):Fz hp (iq hp d).hp:=by
 unfold iq at h|-;split at h
 ·exact ac2 _ _ h
 ·exact ac1 _ _ h
theorem ae4:∀(ds:List DV) (hp:List ak),(fx hp ds).pre->Fz hp (fx hp ds).hp
 |[],_,_=> .refl _
 |d::ds,hp,h=>(ac3 hp d h.1).trans (ae4 ds _ h.2)
theorem Qi(C)(hp)(f)(args)(h:(bh C hp f args).pre):Fz hp (bh C hp f args).hp:=by
 unfold bh at h|-;dsimp only at h|-;split at h
 ·rename_i hn;rw[if_pos hn];exact .refl _
 ·rename_i hn;rw[if_neg hn];exact ae4 _ _ h.1
theorem aqd(C)(d:aS)(fr)(hp)(hk:d.kind=2)(h:(aw C d ⟨fr,hp⟩).pre):Fz hp (aw C d ⟨fr,hp⟩).hp:=by
 cases d<;>simp only[aS.kind,reduceCtorEq,Nat.reduceEqDiff]at hk<;>simp only[aw]at h|-;case p8 f xs=>exact Qi C hp f _ h
 case v7 f xs=>exact h.elim
 case mvf x=>exact ac3 _ _ h
 case qt f xs=>
  split at h
  ·exact Qi C hp _ _ h
  ·exact Qi C hp _ _ h
  ·exact h.elim
def Ex(hp cJ:List ak):Prop:=∃nq t,Fz hp nq/\cJ=nq++t
theorem V6:∀(ds:List (List DV)) (hp:List ak),(xJ hp ds).pre->Fz hp (xJ hp ds).hp
 |[],_,_=> .refl _
 |d::ds,hp,h=>(ac2 d hp h.1).trans (V6 ds _ h.2)
theorem ase(C)(d:aS)(fr)(hp)(hk:d.kind=4\/d.kind=5)(h:(aw C d ⟨fr,hp⟩).pre):Ex hp (aw C d ⟨fr,hp⟩).hp:=by
 cases d<;>simp only[aS.kind,reduceCtorEq,Nat.reduceEqDiff,or_self,or_false,false_or]at hk<;>simp only[aw]at h|-;case alloc z=>exact⟨hp,_,.refl _,rfl⟩
 case H8=>exact⟨hp,_,.refl _,rfl⟩
 case box x=>exact⟨hp,_,.refl _,rfl⟩
 case make z a b=>
  split at h
  ·exact⟨hp,_,.refl _,rfl⟩
  ·exact h.elim
 case uz z x=>
  split at h
  ·exact⟨hp,_,.refl _,rfl⟩
  ·exact h.elim
 case ux aN z ps=>
  split at h
  ·rename_i e;rw[if_pos e];exact⟨_,[],V6 _ _ h.2.1,(List.append_nil _).symm⟩
  ·rename_i e;rw[if_neg e];exact⟨_,_,V6 _ _ h.2.1,rfl⟩
theorem ae5(t){hp}{d}(h:(hH hp d).pre):hH (hp++t) d=⟨(hH hp d).pre,(hH hp d).val,(hH hp d).hp++t⟩:=by
 unfold hH at h|-;split at h
 ·rename_i i L off len;have he:=KO t h;simp only[he,sj.mk.injEq,true_and];unfold Nk.je;cases hi:hp[i]? with
  |none=>simp[bf,hi]at h
  |some o=>simp only[v8 hi];rw[List.set_append_left _ _ (List.getElem?_eq_some_iff.1 hi).1]
 ·rfl
 ·rfl
 ·split at h
  ·rename_i e;simp only[if_pos e]
  ·exact h.elim
theorem ae6(t):∀{hp:List ak} {ds:List DV},(tJ hp ds).pre->tJ (hp++t) ds=⟨(tJ hp ds).pre,(tJ hp ds).dL,(tJ hp ds).hp++t⟩
 |_,[],_=>rfl
 |hp,d::ds,h=>by simp only[tJ]at h|-;rw[ae5 t h.1];simp only;rw[ae6 t h.2]
theorem ae7(t){hp}{d}(h:(iq hp d).pre):iq (hp++t) d=⟨(iq hp d).pre,(iq hp d).val,(iq hp d).hp++t⟩:=by
 unfold iq at h|-;split at h
 ·simp only at h|-;rw[ae6 t h]
 ·rw[ae5 t h]
theorem ZR(t):∀{hp:List ak} {ds:List DV},(fx hp ds).pre->fx (hp++t) ds=⟨(fx hp ds).pre,(fx hp ds).dL,(fx hp ds).hp++t⟩
 |_,[],_=>rfl
 |hp,d::ds,h=>by simp only[fx]at h|-;rw[ae7 t h.1];simp only;rw[ZR t h.2]
theorem alL(t){hp}{d}(h:(uW hp d).1):uW (hp++t) d=uW hp d:=by
 unfold uW at h|-;split at h
 ·rename_i k L i j;cases hk:hp[k]? with
  |none=>simp[hk]at h
  |some o=>simp only[v8 hk]
 ·rfl
theorem Ts(t):∀{hp:List ak} {ds:List DV},(kI hp ds).1->kI (hp++t) ds=kI hp ds
 |_,[],_=>rfl
 |hp,d::ds,h=>by simp only[kI]at h|-;rw[alL t h.1,Ts t h.2]
theorem Tt{hp}:∀{ds:List DV},ds.all DV.aY=true->kI hp ds=(True,ds)
 |[],_=>rfl
 |d::ds,h=>by
  simp only[List.all_cons,Bool.and_eq_true]at h;have e:uW hp d=(True,d):=by unfold uW;cases d<;>first|(simp[DV.aY]at h;done)|simp[h.1]
  simp only[kI,e,Tt h.2,and_self]
theorem Fz.uW{hp cJ:List ak}(hf:Fz hp cJ)(d:DV):Nk.uW cJ d=Nk.uW hp d:=by
 unfold Nk.uW;split
 ·rename_i k L i j;rcases hf.get k with⟨h1,h2⟩|⟨o,o',h1,h2,h3,h4,h5,h6⟩
  ·rw[h1,h2]
  ·rw[h1,h2];have hd:=propext (not_congr h5);simp only[hd,h4]
 ·rfl
theorem Fz.kI{hp cJ}(hf:Fz hp cJ):∀ds:List DV,Nk.kI cJ ds=Nk.kI hp ds
 |[]=>rfl
 |d::ds=>by simp only[Nk.kI,hf.uW d,Fz.kI hf ds]
theorem Tu(t){hp}{d}(h:(bX hp d).1):bX (hp++t) d=bX hp d:=by
 unfold bX at h|-;split at h
 ·rename_i i L off len;simp only[KO t h]
 ·rfl
 ·simp only[Ts t h]
 ·rfl
theorem Tv(t):∀{hp:List ak} {ds:List DV},(fy hp ds).1->fy (hp++t) ds=fy hp ds
 |_,[],_=>rfl
 |hp,d::ds,h=>by simp only[fy]at h|-;rw[Tu t h.1,Tv t h.2]
theorem ahb(t){hp}{d}(h:(cn hp d).1):cn (hp++t) d=cn hp d:=by
 unfold cn at h|-;split at h
 ·simp only[Tv t h]
 ·exact Tu t h
theorem FI(t):∀{hp:List ak} {ds:List DV},(bn hp ds).1->bn (hp++t) ds=bn hp ds
 |_,[],_=>rfl
 |hp,d::ds,h=>by simp only[bn]at h|-;rw[ahb t h.1,FI t h.2]
theorem L3{hp}{d}(h:(hH hp d).pre):bX hp d=(True,(hH hp d).val):=by
 unfold hH bX at*;split at h
 ·exact congrArg (·,_) (eq_true h)
 ·rfl
 ·simp only[Tt h]
 ·split at h
  ·rename_i e;simp only[if_pos e]
  ·exact h.elim
theorem L4:∀{ds:List DV} {hp:List ak},(tJ hp ds).pre->fy hp ds=(True,(tJ hp ds).dL)
 |[],_,_=>rfl
 |d::ds,hp,h=>by
  simp only[tJ,fy]at h|-;rw[L3 h.1];have hv:fy hp ds=fy (hH hp d).hp ds:=by
   have hf:=ac1 hp d h.1;generalize (hH hp d).hp=cJ at hf;clear h;have h1:∀x,bX cJ x=bX hp x:=λx=>by unfold bX;rw[hf.elems];cases x<;>simp only[hf.kI]
   induction ds with
   |nil=>rfl
   |cons x xs ih=>simp only[fy,h1,ih]
  rw[hv,L4 h.2];simp
theorem ZS{hp}{d}(h:(iq hp d).pre):cn hp d=(True,(iq hp d).val):=by
 unfold iq cn at*;split at h
 ·simp only[L4 h]
 ·exact L3 h
theorem Is:∀{ds:List DV} {hp:List ak},(fx hp ds).pre->bn hp ds=(True,(fx hp ds).dL)
 |[],_,_=>rfl
 |d::ds,hp,h=>by
  simp only[fx,bn]at h|-;rw[ZS h.1];have hv:bn hp ds=bn (iq hp d).hp ds:=by
   have hf:=ac3 hp d h.1;generalize (iq hp d).hp=cJ at hf;clear h;have h1:∀x,bX cJ x=bX hp x:=λx=>by unfold bX;rw[hf.elems];cases x<;>simp only[hf.kI]
   have h2:∀xs,fy cJ xs=fy hp xs:=λxs=>by
    induction xs with
    |nil=>rfl
    |cons x xs ih=>simp only[fy,h1,ih]
   have h3:∀x,cn cJ x=cn hp x:=λx=>by unfold cn;split<;>simp only[h1,h2]
   induction ds with
   |nil=>rfl
   |cons x xs ih=>simp only[bn,h3,ih]
  rw[hv,Is h.2];simp
theorem KP(C)(t){hp}{f}{args}(h:(bh C hp f args).pre):
 (bh C (hp++t) f args).pre/\(bh C (hp++t) f args).val=(bh C hp f args).val/\(bh C (hp++t) f args).hp=(bh C hp f args).hp++t:=by
 unfold bh at h|-;dsimp only at h|-;split at h
 ·rename_i hn;have hv:=FI t h.1;rw[if_pos hn];simp only[hv,if_pos hn];exact⟨h,trivial,trivial⟩
 ·rename_i hn;have hv:=FI t (by rw[Is h.1];trivial);rw[if_neg hn];simp only[hv,if_neg hn,ZR t h.1];exact⟨h,trivial,trivial⟩
theorem alk(C)(d:aS)(fr)(hp t)(hk:d.kind=2)(h:(aw C d ⟨fr,hp⟩).pre):
 (aw C d ⟨fr,hp++t⟩).pre/\(aw C d ⟨fr,hp++t⟩).val=(aw C d ⟨fr,hp⟩).val/\(aw C d ⟨fr,hp++t⟩).hp=(aw C d ⟨fr,hp⟩).hp++t:=by
 cases d<;>simp only[aS.kind,reduceCtorEq,Nat.reduceEqDiff]at hk<;>simp only[aw]at h|-;case p8 f xs=>exact KP C t h
 case v7 f xs=>exact h.elim
 case mvf x=>rw[ae7 t h];exact⟨h,rfl,rfl⟩
 case qt f xs=>
  split at h
  ·exact KP C t h
  ·exact KP C t h
  ·exact h.elim
theorem asf(C)(d:aS)(fr)(hp gh:List ak)(hl:gh.length=hp.length)(hk:d.kind=4)(h:(aw C d ⟨fr,hp⟩).pre):
 (aw C d ⟨fr,gh⟩).pre/\(aw C d ⟨fr,gh⟩).val=(aw C d ⟨fr,hp⟩).val/\∃t,(aw C d ⟨fr,hp⟩).hp=hp++t/\(aw C d ⟨fr,gh⟩).hp=gh++t:=by
 cases d<;>simp only[aS.kind,reduceCtorEq,Nat.reduceEqDiff]at hk<;>simp only[aw]at h|-;case alloc z=>rw[hl];exact⟨trivial,rfl,_,rfl,rfl⟩
 case H8=>rw[hl];exact⟨trivial,rfl,_,rfl,rfl⟩
 case box x=>rw[hl];exact⟨h,rfl,_,rfl,rfl⟩
 case make z a b=>
  split at h
  ·simp only[hl];exact⟨h,trivial,_,rfl,rfl⟩
  ·exact h.elim
 case uz z x=>
  split at h
  ·simp only[hl];exact⟨trivial,trivial,_,rfl,rfl⟩
  ·exact h.elim
end Go.Nk

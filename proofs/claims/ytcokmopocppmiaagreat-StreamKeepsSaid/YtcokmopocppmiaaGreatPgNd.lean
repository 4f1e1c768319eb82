/- The Flows of programs that are right: instants of what fits tell what is right, and keep what fits (24). -/
import Derived.Test.YtcokmopocppmiaaGreatPgMc
set_option maxHeartbeats 4000000
set_option linter.all false
set_option maxRecDepth 20000
namespace Go.Proofs.YtcokmopocppmiaaGreat
noncomputable section
open Go.Nk
theorem Ac(l):∀(n:Nat) (at_:Int),(bH l n at_).map (·.path)=(eo l n at_).map (·.1)
 |0,_=>rfl
 |n+1,at_=>by simp only[bH,eo,List.map_append,List.map_map,List.map_flatMap];congr 1;refine yk λq _=> ?_;have:=Ac l n q.node;have h1:((λx:cW=>x.path)∘iT (aD q++[47]))=(λp=>(aD q++[47])++p)∘(λx:cW=>x.path):=rfl;have h2:((λx:List UInt8×Ty=>x.1)∘Mm (aD q++[47]))=(λp=>(aD q++[47])++p)∘(λx=>x.1):=rfl;rw[h1,h2,<-List.map_map,<-List.map_map,this]
def WS(m:List cW):Prop:=∀c∈m,∀n∈c.dL,gD n
theorem WT{en}:∀(sh:Shape) (S m:List cW),S.map (·.path)=sh.map (·.1)->S.length=m.length->Mn en S (sh.map (·.2)) m=true->WS m->lC en sh m
 |[],[],[],_,_,_,_=>trivial
 |[],[],_::_,_,h,_,_=>by simp at h
 |[],_::_,_,h,_,_,_=>by simp at h
 |_::_,[],_,h,_,_,_=>by simp at h
 |_::_,_::_,[],_,h,_,_=>by simp at h
 |x::sh,c::S,d::m,h1,h2,h3,h4=>by simp only[List.map_cons,List.cons.injEq]at h1;simp only[List.map_cons,Mn,Bool.and_eq_true,decide_eq_true_eq]at h3;exact⟨h3.1.1.symm.trans h1.1,⟨h3.1.2,h4 d (by simp)⟩,WT sh S m h1.2 (by simpa using h2) h3.2 λc hc=>h4 c (by simp[hc])⟩
theorem WU{en}:∀(sh:Shape) (S m:List cW),S.map (·.path)=sh.map (·.1)->lC en sh m->Mn en S (sh.map (·.2)) m=true
 |[],[],_,_,_=>rfl
 |[],_::_,_,h,_=>by simp at h
 |_::_,[],_,h,_=>by simp at h
 |_::_,_::_,[],_,h=>h.elim
 |x::sh,c::S,d::m,h1,h=>by simp only[List.map_cons,List.cons.injEq]at h1;simp only[List.map_cons,Mn,Bool.and_eq_true,decide_eq_true_eq];exact⟨⟨h1.1.trans h.1.symm,h.2.1.1⟩,WU sh S m h1.2 h.2.2⟩
theorem aiE{l}{at_}{m}(h:kA l at_ m=true)(w5:WS m):Fit l at_ m:=by simp only[kA,Bool.and_eq_true,decide_eq_true_eq]at h;obtain⟨⟨h1,h2⟩,h3⟩:=h;rw[b7,if_pos h1]at h2 h3;exact WT _ _ _ (Ac l 11 at_) h2 h3 w5
theorem aiF{l}{at_}{m}(hv:rH l at_=true)(h:Fit l at_ m):kA l at_ m=true:=by simp only[kA,Bool.and_eq_true,decide_eq_true_eq];rw[b7,if_pos hv];have:=NF h;rw[u4]at this;exact⟨⟨hv,this⟩,WU _ _ _ (Ac l 11 at_) h⟩
theorem adT{en}{s:Shape}{m}(h:lC en s m):WS m:=λc hc=>by obtain⟨x,_,_,hr⟩:=Ad h c hc;exact hr.parts.2.2.2
def zm(v:List (List Int)):Prop:=∀y∈v,∀n∈y,gD n
theorem adU{en}:∀(ds:List Va) (v:List (List Int)),Mo en ds v=true->zm v->∀(j:Nat) (x:Va) (y:List Int),ds[j]? =some x->v[j]? =some y->RI en (z3 x) y
 |[],_,_,_,j,x,y,hx,_=>by simp at hx
 |_::_,[],_,_,j,x,y,_,hy=>by simp at hy
 |d::ds,z::v,h,w5,j,x,y,hx,hy=>by
  simp only[Mo,Bool.and_eq_true]at h;cases j with
  |zero=>
   simp at hx hy;subst hx hy;exact⟨h.1,w5 z (by simp)⟩
  |succ j=>exact adU ds v h.2 (λy hy=>w5 y (by simp[hy])) j x y (by simpa using hx) (by simpa using hy)
theorem aqM{en}{ds}{v}(h:uO en ds v=true)(w5:zm v):Ae en ds v:=by simp only[uO,Bool.and_eq_true,decide_eq_true_eq]at h;exact⟨h.1.symm,adU ds v h.2 w5⟩
theorem adV{en}:∀(ds:List Va) (v:List (List Int)),(∀(j:Nat) (x:Va) (y:List Int),ds[j]? =some x->v[j]? =some y->RI en (z3 x) y)->Mo en ds v=true
 |[],_,_=>rfl
 |_::_,[],_=>rfl
 |d::ds,z::v,h=>by simp only[Mo,Bool.and_eq_true];exact⟨(h 0 d z rfl rfl).1,adV ds v λj x y hx hy=>h (j+1) x y (by simpa using hx) (by simpa using hy)⟩
theorem aqN{en}{ds}{v}(h:Ae en ds v):uO en ds v=true:=by simp only[uO,Bool.and_eq_true,decide_eq_true_eq];exact⟨h.1.symm,adV ds v h.2⟩
theorem I8{en}{ds:List Va}{v:List (List Int)}(h:Ae en ds v):v.length=ds.length/\(∀y∈v,y.length<=8)/\zm v:=by
 have key:∀y∈v,∃t,RI en t y:=λy hy=>by
  obtain⟨j,hj⟩:=List.getElem?_of_mem hy;have hl:j<ds.length:=by rw[<-h.1];exact(List.getElem?_eq_some_iff.1 hj).1
  exact⟨_,h.2 j ds[j] y (List.getElem?_eq_getElem hl) hj⟩
 refine⟨h.1,λy hy=> ?_,λy hy=> ?_⟩
 ·obtain⟨t,ht⟩:=key y hy;exact ht.len.2
 ·obtain⟨t,ht⟩:=key y hy;exact ht.parts.2.2.2
theorem aaZ{l}(h:mC l):aiG l:=λi f hf=>by
 have hG:=h.Cj i f hf;refine⟨by have:=hG.sz.2.2;omega,λq hq=> ?_⟩;have hQ:=hG.eq q hq;have bw:=List.length_pos_iff.2 hQ.ne;refine⟨λ_=>bw,λh7=> ?_⟩;rcases hQ.body with⟨_,hb⟩|hb
 ·exfalso;cases hb<;>omega
 ·rw[ml];exact⟨h7,bw,hb.node⟩
theorem aa0{l}(h:mC l):Dj l:=λf hf q hq=>by
 obtain⟨i,hi⟩:=List.getElem?_of_mem hf;rcases((h.Cj i f hi).eq q hq).body with⟨_,hb⟩|hb
 ·cases hb<;>omega
 ·have:=hb.kind;omega
theorem WV{l}(h:mC l)(hw:WW l):okG l:=⟨⟨h.cap,hw⟩,aaZ h,aa0 h⟩
theorem adX{p}{i}:∀(qs:List wq) (st:Em),(∀x∈qs,(ax x.e).length<300)->(qs.foldl (uP p i) st).vs.length<=st.vs.length+600*qs.length
 |[],st,_=>by simp
 |x::qs,st,h=>by rw[List.foldl_cons];have h1:=adX (p:=p) (i:=i) qs (uP p i st x) λy hy=>h y (by simp[hy]);have h2:=(NG (p:=p) (node:=i) (first:=x.names.getD 0 []) x.e x.names ((da p i (x.names.getD 0 [])).getD []) ⟨0,st.vs,st.qs⟩).vs;have h3:=h x (by simp);have h4:(uP p i st x).vs.length<=st.vs.length+2*(ax x.e).length:=h2;simp only[List.length_cons];omega
theorem aa1{p}(hs:bx p=true):WW (dU p):=λf hf=>by
 simp only[dU,lK,List.mem_map]at hf;obtain⟨g,hg,rfl⟩:=hf;obtain⟨i,hi⟩:=List.getElem?_of_mem hg;rw[List.getElem?_mapIdx]at hi;cases hn:p.nodes[i]? with
 |none=>rw[hn]at hi;simp at hi
 |some n=>
  rw[hn]at hi;simp at hi;subst hi;simp only[bx,Bool.and_eq_true,List.all_eq_true]at hs;have hN:=hs.2 n (List.mem_of_getElem? hn);simp only[dH,Mp,Bool.and_eq_true,decide_eq_true_eq,List.all_eq_true,rM]at hN;obtain⟨⟨⟨⟨⟨h1,h2⟩,h3⟩,h4⟩,h5⟩,h6⟩:=hN;have hv:=adX (p:=p) (i:=i) n.eqs ⟨0,n.vars.map (varOf p i),[]⟩ λx hx=>kL (h6 x hx).1.2;have h7:=h1.2;have h8:=h2.2;have h9:=h3.2;rw[List.length_map]at hv;refine⟨?_,?_,?_⟩
  ·show(n.ins.map (varOf p i)).length<=1000000;rw[List.length_map];omega
  ·show(n.outs.map (varOf p i)).length<=1000000;rw[List.length_map];omega
  ·show(emN p i n).vs.length<=1000000;have:(emN p i n).vs.length<=n.vars.length+600*n.eqs.length:=hv;omega
structure NH(l:jw)(at_:Int)(m:List cW)(ins:List (List Int)):Prop where
 ok:okF l at_ m ins
 Cj:(dC l at_ m ins).2.2=0->Ae l.enums (ad l at_).outs (dC l at_ m ins).1/\Fit l at_ (dC l at_ m ins).2.1
 bad:(dC l at_ m ins).2.2≠0->(dC l at_ m ins).1=[]/\(dC l at_ m ins).2.1=m
theorem Ue{l}(hL:mC l)(hG:okG l){at_}(hv:rH l at_=true){m}(hM:mD m)(w5:WS m){ins}(hR:Uf ins)(axM:zm ins):NH l at_ m ins:=by
 have hS:kA l at_ m=true->uO l.enums (ad l at_).ins ins=true->jX l 11 at_ m ins/\((aZ l 11 at_ m ins).2.2=0->Ae l.enums (ad l at_).outs (aZ l 11 at_ m ins).1/\Fit l at_ (aZ l 11 at_ m ins).2.1)/\((aZ l 11 at_ m ins).2.2≠0->(aZ l 11 at_ m ins).1=[]/\(aZ l 11 at_ m ins).2.1=m):=λh1 h2=>by have:=(mI hv).2;have:=hG.1.1.1.1;exact Se hL 11 at_ (by omega) hv m ins (aiE h1 w5) (aqM h2 axM)
 refine⟨⟨hG,hM,hR,λh1 h2=> ?_⟩,?_,?_⟩
 ·obtain⟨g1,g2,g3⟩:=hS h1 h2;refine⟨g1,?_⟩;by_cases c:(aZ l 11 at_ m ins).2.2=0
  ·have:=(Fit.mem hL hv (g2 c).2).1;omega
  ·rw[(g3 c).2];have:=hM.1;omega
 all_goals
  unfold dC;cases c1:kA l at_ m
  ·rw[if_pos rfl];simp
  ·rw[if_neg (by decide)];cases c2:uO l.enums (ad l at_).ins ins
   ·rw[if_pos rfl];simp
   ·rw[if_neg (by decide)];obtain⟨g1,g2,g3⟩:=hS c1 c2;first|exact g2|exact g3
theorem aa2{l}(hL:mC l)(hG:okG l){at_}(hv:rH l at_=true):∀(rows:List (List (List Int))) (m:List cW),Fit l at_ m->(∀r∈rows,Uf r/\zm r)->Af l at_ rows m/\(tv l at_ rows m).1.length<=rows.length/\∀r∈(tv l at_ rows m).1,r.length<=1000/\∀y∈r,y.length<=8
 |[],_,_,_=>⟨trivial,by simp[tv],by simp[tv]⟩
 |ins::rows,m,hm,hr=>by
  have hs:=Ue hL hG hv (Fit.mem hL hv hm) (adT hm) (hr ins (by simp)).1 (hr ins (by simp)).2;obtain⟨h0,h1⟩:=mI hv;obtain⟨i,hi,hf⟩:=jY h0 h1;have iP:=(hL.Cj i _ hf).sz.2.1;simp only[Af,tv];by_cases c:(dC l at_ m ins).2.2=0
  ·obtain⟨g1,g2⟩:=hs.Cj c;obtain⟨k1,k2,k3⟩:=aa2 hL hG hv rows _ g2 λr h=>hr r (by simp[h]);obtain⟨w1,w2,_⟩:=I8 g1;rw[if_pos c];refine⟨⟨hs.ok,λ_=>k1⟩,by simp;omega,λr h=> ?_⟩;rcases List.mem_cons.1 h with rfl|h
   ·exact⟨by omega,w2⟩
   ·exact k3 r h
  ·rw[if_neg c];exact⟨⟨hs.ok,λh=>absurd h c⟩,by simp,by simp⟩
def q0n:Pl:=⟨5,[[110]],0,[([110,46,49],0)],[0],0,false,[],0,[]⟩
def q0s:Pl:=⟨3,[[110,46,49]],3,[([110],0),([],1)],[],0,false,[],0,[]⟩
def v0n:Va:=⟨[110],1,0,0,[]⟩
def v0s:Va:=⟨[110,46,49],1,0,0,[]⟩
def f0:Fl:=⟨[102],[],[v0n],[v0s],[q0n,q0s]⟩
def l0:jw:=⟨[],[f0]⟩
theorem aa3:fp f0 [110]=some v0n:=rfl
theorem aa4:fp f0 [110,46,49]=some v0s:=rfl
theorem axN:uQ f0 [110]=tI:=by unfold uQ;rw[aa3];rfl
theorem axO:uQ f0 [110,46,49]=tI:=by unfold uQ;rw[aa4];rfl
theorem apD:se l0 0 f0:=by
 have mn:eQ f0=[v0n,v0s]:=rfl;have hna:dN f0.eqs=[[110],[110,46,49]]:=rfl;refine⟨?_,?_,?_,?_,?_,?_,?_,?_,?_⟩
 ·rw[mn];simp[v0n,v0s]
 ·rw[mn];intro v hv;simp only[List.mem_cons,List.not_mem_nil,or_false]at hv;rcases hv with rfl|rfl
  ·exact⟨by decide+kernel,by decide,by unfold tw v0n;decide,by decide⟩
  ·exact⟨by decide+kernel,by decide,by unfold tw v0s;decide,by decide⟩
 ·intro v hv;have hv:v∈[v0n]:=hv;simp only[List.mem_singleton]at hv;rw[hv];rfl
 ·intro q hq;have hq:q∈[q0n,q0s]:=hq;simp only[List.mem_cons,List.not_mem_nil,or_false]at hq;rcases hq with rfl|rfl
  ·refine⟨by decide,?_,?_,by decide,⟨by decide,λ_=>rfl⟩,.inl ⟨rfl,?_⟩⟩
   ·intro s hs;have hs:s∈[[110]]:=hs;rw[List.mem_singleton.1 hs];exact⟨v0n,aa3,rfl⟩
   ·intro c hc;have hc:c∈([]:List dY):=hc;simp at hc
   ·have:uQ f0 (aD q0n)=tI:=axN;rw[this];exact .fby ([110,46,49],0) rfl rfl (.inr ⟨by decide,v0s,aa4,rfl,rfl⟩) ⟨by decide+kernel,by
     intro n hn;have hn:n∈[(0:Int)]:=hn;rw[List.mem_singleton.1 hn];unfold gD;omega⟩
  ·refine⟨by decide,?_,?_,by decide,⟨by decide,λh=>absurd rfl h⟩,.inl ⟨rfl,?_⟩⟩
   ·intro s hs;have hs:s∈[[110,46,49]]:=hs;rw[List.mem_singleton.1 hs];exact⟨v0s,aa4,rfl⟩
   ·intro c hc;have hc:c∈([]:List dY):=hc;simp at hc
   ·have:uQ f0 (aD q0s)=tI:=axO;rw[this];exact .bin ([110],0) ([],1) tI tI rfl rfl (.inr ⟨by decide,v0n,aa3,rfl,rfl⟩) (.inl ⟨rfl,by decide+kernel,by
     intro n hn;rw[List.mem_singleton.1 hn];unfold gD;omega⟩) (by decide+kernel)
 ·rw[hna];decide
 ·intro s _ d hd;have hd:d∈([]:List Va):=hd;simp at hd
 ·intro v hv;have hv:v∈[v0n,v0s]:=hv;rw[hna];simp only[List.mem_cons,List.not_mem_nil,or_false]at hv;rcases hv with rfl|rfl<;>decide
 ·intro k q hq s hs;match k,hq with
  |0,hq=>
   have:q0n=q:=Option.some.inj hq;subst this;have hs:s∈([]:List (List UInt8)):=hs;simp at hs
  |1,hq=>
   have:q0s=q:=Option.some.inj hq;subst this;have hr:fF q0s=[[110]]:=by decide+kernel
   rw[hr]at hs;rw[List.mem_singleton.1 hs];exact .inr (by decide+kernel)
  |k+2,hq=>simp[f0]at hq
 ·decide
theorem aa6:mC l0:=by
 refine⟨λi f hf=> ?_,⟨by decide,λf hf=> ?_⟩,λf hf q hq=> ?_⟩
 ·match i,hf with
  |0,hf=>
   have:f0=f:=Option.some.inj hf;subst this;exact apD
  |i+1,hf=>simp[l0]at hf
 ·have hf:f∈[f0]:=hf;rw[List.mem_singleton.1 hf];unfold WX bI;decide
 ·have hf:f∈[f0]:=hf;rw[List.mem_singleton.1 hf]at hq;exact(se.caps apD).2 q hq
theorem atW:WW l0:=λf hf=>by have hf:f∈[f0]:=hf;rw[List.mem_singleton.1 hf];decide
theorem aqO:rH l0 0=true:=by decide+kernel
theorem axP:tv l0 0 [[],[],[]] (b7 l0 0)=([[[0]],[[1]],[[2]]],0):=by decide+kernel
def Ag:List DV->Prop×DV:=Sf (True,.bool true)
theorem I9:aF Tryz.prog 9 Ag:=by refine aF.mk0 (ps:=[(17,Ja),(14,BK),(12,tz)]) (hs:=[]) ⟨adY,kX,jZ,trivial⟩ trivial Gn (λ_=> ?_);have hG:=WV aa6 atW;have hr:=aa2 aa6 hG aqO [[],[],[]] (b7 l0 0) (Fit.start aa6 aqO) (λr h=>by simp at h;subst h;exact⟨⟨by simp,by simp⟩,by intro y hy;simp at hy⟩);have e1:=Sg l0 0 [[],[],[]];rw[eq_true (show okG l0/\rH l0 0=true/\[[],[],[]].length<=1000/\Af l0 0 [[],[],[]] (b7 l0 0) from⟨hG,aqO,by decide,hr.1⟩),axP]at e1;simp only[b8,l0,f0,q0n,q0s,v0n,v0s,j0,dZ,fJ,eD,dI,cX,jU,dG,List.map_cons,List.map_nil]at e1;have e2:=wu [[2]] [[2]];rw[eq_true (show [[(2:Int)]].length<=1000000/\∀y∈[[(2:Int)]],y.length<=1000000 from⟨by decide,by simp⟩),decide_eq_true rfl]at e2;simp only[dG,cX,List.map_cons,List.map_nil]at e2;exact aq (A4 @u5.eq_1 @yl e1 e2) zz
def Gp(p:cY):Prop:=∀n∈p.nodes,∀x∈n.eqs,w8 x.e
def NI(p:cY):Bool:=bx p&&wv p
def ym(p:cY):jw:=if NI p then dU p else⟨[],[]⟩
def Ah(p:cY):Int:=if NI p then((dU p).fs.length:Int)-1 else 0
def DT(p:cY):Bool:=NI p&&rH (dU p) (((dU p).fs.length:Int)-1)
def tA:List DV->Prop×DV:=bB bj λp=>(WY p/\Gp p,.cy [.agg (b8 (ym p)),.int .i64 (Ah p),.bool (DT p)])
def wx(p):=show tA [.agg (bT p)]=_ from aH dp _ p
theorem NJ{p}(w5:Gp p)(h:NI p=true):mC (dU p)/\okG (dU p):=by simp only[NI,Bool.and_eq_true]at h;have hL:=aa7 (aqP h.2 h.1 w5) h.2;exact⟨hL,WV hL (aa1 h.1)⟩
theorem mJ:aF Tryz.prog 6 tA:=by
 refine aF.mo (ps:=[(21,NK),(22,Jb),(19,lL)]) (hs:=[]) ⟨Ck,aa8,gP,trivial⟩ trivial DU λp h=> ?_;try dsimp only at h
 obtain⟨hc,w5⟩:=h;have e0:=WZ p;rw[eq_true hc]at e0;by_cases c:bx p=true;rotate_left
 ·have c1:bx p=false:=by simpa using c
  have c2:NI p=false:=by rw[NI,c1];rfl
  rw[show ym p=⟨[],[]⟩ by rw[ym,c2];rfl,show Ah p=0 by rw[Ah,c2];rfl,show DT p=false by rw[DT,c2];rfl];rw[c1]at e0;obtain⟨en,ns⟩:=p;simp only[bT]at e0;exact aq (A4 @j7.eq_1 @bj.eq_1 e0 @b8.eq_1) zz
 have e1:=Ug p;rw[eq_true c]at e1;rw[c]at e0;by_cases cs:wv p=true;rotate_left
 ·have cs1:wv p=false:=by simpa using cs
  have c2:NI p=false:=by rw[NI,cs1,Bool.and_false]
  rw[show ym p=⟨[],[]⟩ by rw[ym,c2];rfl,show Ah p=0 by rw[Ah,c2];rfl,show DT p=false by rw[DT,c2];rfl];rw[cs1,if_neg (by decide)]at e1;obtain⟨en,ns⟩:=p;simp only[bT,b8,List.map_nil]at e0 e1;exact aq (A5 @j7.eq_1 @bj.eq_1 e0 e1 @b8.eq_1) zz
 have c2:NI p=true:=by rw[NI,c,cs];rfl
 have hG:=(NJ w5 c2).2;rw[show ym p=dU p by rw[ym,c2];rfl,show Ah p=((dU p).fs.length:Int)-1 by rw[Ah,c2];rfl,show DT p=rH (dU p) (((dU p).fs.length:Int)-1) by rw[DT,c2];rfl];rw[cs,if_pos rfl]at e1;have e2:=jV (dU p) (((dU p).fs.length:Int)-1);rw[eq_true hG.1.1]at e2;have hl:=hG.1.1.1.1;generalize dU p=l at*;obtain⟨lw,hlw⟩:∃a,a=(l.fs.length:Int)-1:=⟨_,rfl⟩;have hw:IntKind.i64.wrap ((l.fs.length:Int)-1)=lw:=by rw[hlw];exact ig (by omega)
 rw[<-hlw]at e2|-;generalize b7 l lw=S at*;generalize rH l lw=b at*;obtain⟨en,ns⟩:=p;simp only[bT,b8]at e0 e1 e2;exact aq (A6 @j7.eq_1 @bj.eq_1 e0 e1 e2 hw) zz
theorem aa9{p}(w5:Gp p)(h:DT p=true):mC (ym p)/\okG (ym p)/\rH (ym p) (Ah p)=true:=by simp only[DT,Bool.and_eq_true]at h;rw[ym,Ah,if_pos h.1,if_pos h.1];exact⟨(NJ w5 h.1).1,(NJ w5 h.1).2,h.2⟩
theorem anu{m}(h:NL m=true):mD m:=by simp only[NL,afz,Bool.and_eq_true,decide_eq_true_eq,List.all_eq_true]at h;exact⟨by omega,λc hc=>by have:=h.2 c hc;omega⟩
theorem Jc{v}(h:kY v=true):Uf v:=by obtain⟨h1,h2⟩:=W0 h;exact⟨by omega,λy hy=>by have:=h2 y hy;omega⟩
theorem aiH{l}{at_}{m}{ins}(hL:mC l)(hv:rH l at_=true)(hM:mD m)(h:NH l at_ m ins):
 ((dC l at_ m ins).1.length<=1000000/\∀y∈(dC l at_ m ins).1,y.length<=1000000)/\mD (dC l at_ m ins).2.1:=by
 by_cases c:(dC l at_ m ins).2.2=0
 ·obtain⟨g1,g2⟩:=h.Cj c;obtain⟨w1,w2,_⟩:=I8 g1;obtain⟨h0,h1⟩:=mI hv;obtain⟨i,hi,hf⟩:=jY h0 h1;have iP:=(hL.Cj i _ hf).sz.2.1;exact⟨⟨by omega,λy hy=>by have:=w2 y hy;omega⟩,Fit.mem hL hv g2⟩
 ·obtain⟨g1,g2⟩:=h.bad c;rw[g1,g2];exact⟨⟨by simp,by simp⟩,hM⟩
def NM:List DV->Prop×DV:=eR bj cT iY λp m ins=>(WY p/\Gp p/\WS m/\zm ins,.bool true)
def Ru(p)(m:List cW)(ins:List (List Int)):=show NM [.agg (bT p),.sl (m.map aT),.sl (ins.map dG)]=_ from bz dp gQ o6 _ p m ins
theorem Jd:Ag []=(True,.bool true):=Gq _
theorem NN:aF Tryz.prog 3 NM:=by
 refine aF.uR (ps:=[(6,tA),(7,abb),(8,NP),(9,Ag),(10,sC),(11,sC),(12,tz),(13,MZ),(14,BK),(15,wy),(16,wy)]) (hs:=[])
  ⟨mJ,Gs,o7,I9,NQ,W5,jZ,tC,kX,NR,W6,trivial⟩ trivial wz λp m ins h=> ?_
 obtain⟨hc,w5,hm,hr⟩:=h;have e0:=wx p;rw[eq_true (And.intro hc w5)]at e0;have e1:=afA m;have e2:=Je ins;have eL:=Jd;have eN:=yl;by_cases c:DT p=true;rotate_left
 ·have c1:DT p=false:=by simpa using c
  rw[c1]at e0;generalize ym p=l at*;generalize Ah p=a at*;obtain⟨en,ns⟩:=p;obtain⟨len,lfs⟩:=l;simp only[bT,b8]at e0;exact aq (A5 @ep.eq_1 @cT.eq_1 @bj.eq_1 @iY.eq_1 e0) zz
 obtain⟨hL,hG,hv⟩:=aa9 w5 c;rw[c]at e0;by_cases cm:NL m=true;rotate_left
 ·rw[show NL m=false by simpa using cm]at e1;generalize ym p=l at*;generalize Ah p=a at*;obtain⟨en,ns⟩:=p;obtain⟨len,lfs⟩:=l;simp only[bT,b8]at e0;exact aq (A6 @ep.eq_1 @cT.eq_1 @bj.eq_1 @iY.eq_1 e0 e1) zz
 by_cases cr:kY ins=true;rotate_left
 ·rw[show kY ins=false by simpa using cr]at e2;rw[cm]at e1;generalize ym p=l at*;generalize Ah p=a at*;obtain⟨en,ns⟩:=p;obtain⟨len,lfs⟩:=l;simp only[bT,b8]at e0;exact aq (A7 @ep.eq_1 @cT.eq_1 @bj.eq_1 @iY.eq_1 e0 e1 e2) zz
 rw[cm]at e1;rw[cr]at e2;generalize ym p=l at*;generalize Ah p=a at*;have hM:=anu cm;have hs:=Ue hL hG hv hM hm (Jc cr) hr;obtain⟨⟨k1,k2⟩,k3⟩:=aiH hL hv hM hs;have e3:=tD l a m ins;rw[eq_true hs.ok]at e3;have e4:=wu (dC l a m ins).1 (dC l a m ins).1;rw[eq_true (And.intro k1 k2),decide_eq_true rfl]at e4;have e5:=NS (dC l a m ins).2.1 (dC l a m ins).2.1;rw[eq_true (dV k3).1,decide_eq_true rfl]at e5;have e6:=BL l a m;rw[eq_true (And.intro hG hM)]at e6;generalize dC l a m ins=R at*;generalize kA l a m=b at*;have hbb:(b==b)=true:=by cases b<;>rfl
 obtain⟨en,ns⟩:=p;obtain⟨len,lfs⟩:=l;simp only[bT,b8]at e0 e3 e6;exact aq (A9 @ep.eq_1 @cT.eq_1 @bj.eq_1 @iY.eq_1 e0 e1 e2 e3 (A4 e4 e5 e6 eN)) zz
def Si:List DV->Prop×DV:=b5 bj eR3 λp rows=>(WY p/\Gp p/\∀r∈rows,zm r,.bool true)
theorem Uh(p)(rows:List (List (List Int))):Si [.agg (bT p),.sl (rows.map jU)]=(WY p/\Gp p/\∀r∈rows,zm r,.bool true):=aO dp abd _ p rows
theorem Rv:aF Tryz.prog 4 Si:=by
 refine aF.oU (ps:=[(6,tA),(8,NP),(9,Ag),(17,Ja),(18,Ja),(12,tz),(14,BK)]) (hs:=[])
  ⟨mJ,o7,I9,adY,anv,jZ,kX,trivial⟩ trivial w9 λp rows h=> ?_
 obtain⟨hc,w5,hr⟩:=h;have e0:=wx p;rw[eq_true (And.intro hc w5)]at e0;have eL:=Jd;have eN:=yl;by_cases c:DT p=true;rotate_left
 ·have c1:DT p=false:=by simpa using c
  rw[c1]at e0;generalize ym p=l at*;generalize Ah p=a at*;obtain⟨en,ns⟩:=p;obtain⟨len,lfs⟩:=l;simp only[bT,b8]at e0;exact aq (A4 @gE.eq_1 @bj.eq_1 @eR3.eq_1 e0) zz
 obtain⟨hL,hG,hv⟩:=aa9 w5 c;rw[c]at e0;generalize ym p=l at*;generalize Ah p=a at*;obtain⟨en,ns⟩:=p;simp only[bT,b8]at e0;by_cases c30:(30:Int)<rows.length
 ·exact aq (A5 @gE.eq_1 @bj.eq_1 @eR3.eq_1 e0 c30) zz
 have c31:rows.length<=30:=by omega
 refine aq (A5 @gE.eq_1 @bj.eq_1 @eR3.eq_1 e0 c30) (JJ ?_);refine ai rows (λj (_:Unit)=>⟨[(1,.sl (rows.map jU)),(5,.ptr 0 1 0 0),(6,.int .i64 a),(8,.int .i64 j)],[⟨.loc,2,[[.sl (l.enums.map jQ),.sl (l.fs.map j0)]]⟩]⟩) (λj r _=>(∀x∈r,kY x=true)->∀x∈rows,kY x=true) () (by decide) CT (λh=>h) (λj x r _ d hx hd hq=> ?_) (λj _ e hq=> ?_)
 ·have gx:=af jU hx;have e1:=Je x;by_cases cx:kY x=true
  ·rw[cx]at e1;refine aq (A3 d gx e1) (JJ ?_);all_goals first|exact⟨(),CT,λh=>hq (by intro y hy;rcases List.mem_cons.1 hy with rfl|hy;exact cx;exact h y hy)⟩
  ·rw[show kY x=false by simpa using cx]at e1;exact aq (A3 d gx e1) zz
 have axQ:=hq (by simp);obtain⟨q1,q2,q3⟩:=aa2 hL hG hv rows (b7 l a) (Fit.start hL hv) λr qB=>⟨Jc (axQ r qB),hr r qB⟩;have e1:=Sg l a rows;rw[eq_true (show okG l/\rH l a=true/\rows.length<=1000/\Af l a rows (b7 l a) from⟨hG,hv,by omega,q1⟩)]at e1;generalize tv l a rows (b7 l a)=R at*;obtain⟨R1,R2⟩:=R;obtain⟨len,lfs⟩:=l;simp only[b8]at e1;dsimp only at q2 q3 e1;refine aq (A3 e e1 eN) (JJ ?_);refine ai R1 (λj (_:Unit)=>⟨[(9,.sl (R1.map jU)),(11,.sl (R1.map jU)),(13,.int .i64 j)],[⟨.loc,2,[[.sl (len.map jQ),.sl (lfs.map j0)]]⟩]⟩) (λj r _=>True) () (by decide) CT trivial (λj x r _ d2 DW hd2 _=> ?_) (λj _ e2 _=> ?_)
 ·have gx:=af jU DW;obtain⟨w1,w2⟩:=q3 x (List.mem_of_getElem? DW);have e4:=wu x x;rw[eq_true (show x.length<=1000000/\∀y∈x,y.length<=1000000 from⟨by omega,λy hy=>by have:=w2 y hy;omega⟩),decide_eq_true rfl]at e4;refine aq (A3 d2 gx e4) (JJ ?_);all_goals exact⟨(),CT⟩
 ·exact aq @e2 zz
def NT:List DV->Prop×DV:=b5 bj eR3 λp rows=>(WY p/\Gp p/\∀r∈rows,zm r,.bool true)
theorem Rw(p)(rows:List (List (List Int))):NT [.agg (bT p),.sl (rows.map jU)]=(WY p/\Gp p/\∀r∈rows,zm r,.bool true):=aO dp abd _ p rows
theorem NU:aF Tryz.prog 5 NT:=by
 refine aF.oU (ps:=[(6,tA),(8,NP),(9,Ag),(19,lL),(10,sC),(13,MZ),(14,BK),(20,xa),(15,wy)]) (hs:=[])
  ⟨mJ,o7,I9,gP,NQ,tC,kX,NV,NR,trivial⟩ trivial wA λp rows h=> ?_
 obtain⟨hc,w5,hr⟩:=h;have e0:=wx p;rw[eq_true (And.intro hc w5)]at e0;have eL:=Jd;have eN:=yl;by_cases c:DT p=true;rotate_left
 ·have c1:DT p=false:=by simpa using c
  rw[c1]at e0;generalize ym p=l at*;generalize Ah p=a at*;obtain⟨en,ns⟩:=p;obtain⟨len,lfs⟩:=l;simp only[bT,b8]at e0;exact aq (A4 @fP.eq_1 @bj.eq_1 @eR3.eq_1 e0) zz
 obtain⟨hL,hG,hv⟩:=aa9 w5 c;rw[c]at e0;generalize ym p=l at*;generalize Ah p=a at*;obtain⟨en,ns⟩:=p;simp only[bT,b8]at e0;by_cases c30:(20:Int)<rows.length
 ·exact aq (A5 @fP.eq_1 @bj.eq_1 @eR3.eq_1 e0 c30) zz
 have c31:rows.length<=20:=by omega
 have e1:=jV l a;rw[eq_true hG.1.1,hv]at e1;have Sj:=Fit.start hL hv;generalize b7 l a=S at*;obtain⟨h0,h1⟩:=mI hv;obtain⟨fg,fm,fl⟩:=tE (v:=⟨l,a,[],[],[]⟩) ⟨hG.1.2,h0,h1⟩;dsimp only at fg fm fl;have hw:=(hG.1.2 _ fm).2.1;have hfw:∀v,Ae l.enums (ad l a).outs v->xa [.sl (l.enums.map jQ),.sl ((ad l a).outs.map dZ),.sl (v.map dG)]=(True,.bool true):=λv hvo=>by obtain⟨w1,w2,_⟩:=I8 hvo;obtain⟨i,hi,hf⟩:=jY h0 h1;have iP:=(hL.Cj i _ hf).sz.2.1;rw[Ld,eq_true (show(ad l a).outs.length<=1000000/\Uf v from⟨hw,by omega,λy hy=>by have:=w2 y hy;omega⟩),aqN hvo]
 have NW:∀m ins,Fit l a m->kY ins=true->zm ins->NH l a m ins:=λm ins hm hf hi=>Ue hL hG hv (Fit.mem hL hv hm) (adT hm) (Jc hf) hi;have Rx:∀m,Fit l a m->mD m:=λm hm=>Fit.mem hL hv hm;have mK:∀m,Fit l a m->wy [.agg (b8 l),.int .i64 a,.sl (m.map aT)]=(True,.bool true):=λm hm=>by rw[BL,eq_true (And.intro hG (Rx m hm)),aiF hv hm]
 have e3:=λm ins=>tD l a m ins;have Sk:∀m ins,NH l a m ins->(dC l a m ins).2.2=0->xa [.sl (l.enums.map jQ),.sl ((ad l a).outs.map dZ),.sl ((dC l a m ins).1.map dG)]=(True,.bool true)/\wy [.agg (b8 l),.int .i64 a,.sl ((dC l a m ins).2.1.map aT)]=(True,.bool true)/\Fit l a (dC l a m ins).2.1:=λm ins hs hc=>by obtain⟨g1,g2⟩:=hs.Cj hc;exact⟨hfw _ g1,mK _ g2,g2⟩
 have aqR:∀m ins,NH l a m ins->sC [.agg (b8 l),.int .i64 a,.sl (m.map aT),.sl (ins.map dG)]=(True,.cy [.sl ((dC l a m ins).1.map dG),.sl ((dC l a m ins).2.1.map aT),.int .i64 (dC l a m ins).2.2]):=λm ins hs=>by rw[tD,eq_true hs.ok]
 clear hfw mK e3;simp only[b8]at e1 Sk aqR;refine aq (A6 @fP.eq_1 @bj.eq_1 @eR3.eq_1 e0 e1 c30) (JJ ?_);refine ai rows (λj (m:List cW)=>⟨[(1,.sl (rows.map jU)),(5,.ptr 0 1 0 0),(6,.int .i64 a),(8,.sl (m.map aT)),(10,.int .i64 j)],[⟨.loc,2,[[.sl (l.enums.map jQ),.sl (l.fs.map j0)]]⟩]⟩) (λj r m=>Fit l a m) S (by decide) CT Sj (λj x r m d hx hd hq=> ?_) (λj m e hq=> ?_)
 ·have gx:=af jU hx;have e2:=Je x;by_cases cx:kY x=true;rotate_left
  ·rw[show kY x=false by simpa using cx]at e2;exact aq (A3 d gx e2) zz
  rw[cx]at e2;have hs:=NW m x hq cx (hr x (List.mem_of_getElem? hx));have e4:=aqR m x hs;have hg:=Sk m x hs;have hb:=hs.bad;have hM:=Rx m hq;clear hs aqR Sk;generalize dC l a m x=R at*;generalize ad l a=f at*;obtain⟨dr,eV,cB,fvars,cU⟩:=f;dsimp only at hg;by_cases cz:R.2.2=0
  ·obtain⟨g1,g2,g3⟩:=hg cz;refine aq (A9 d gx e2 e4 eN cz h0 h1 (A3 fg g1 g2)) (JJ ?_);all_goals exact⟨R.2.1,CT,g3⟩
  ·obtain⟨b1,b2⟩:=hb cz;have e5:=NS m m;rw[eq_true (dV hM).1,decide_eq_true rfl]at e5;rw[b1,b2]at e4;refine aq (A6 d gx e2 e4 eN e5) (JJ (λhn=> ?_));all_goals first|exact absurd (by assumption) cz|exact⟨m,CT,hq⟩
 ·exact aq @e zz
theorem Le:∀{l:List Ex} {y:Ex},y∈bC l->∃x∈l,y∈ax x
 |[],y,h=>by simp[bC]at h
 |a::l,y,h=>by
  rw[bC]at h;rcases List.mem_append.1 h with h|h
  ·exact⟨a,by simp,h⟩
  ·obtain⟨x,h1,h2⟩:=Le h;exact⟨x,by simp[h1],h2⟩
theorem aiI{e:Ex}(h1:gD e.n)(h2:∀x∈e.ar,w8 x):w8 e:=λy hy=>by
 rw[iA]at hy;rcases List.mem_cons.1 hy with rfl|hy
 ·exact h1
 ·obtain⟨x,hx,hy⟩:=Le hy;exact h2 x hx y hy
theorem afC:∀N,bJ (xb Tryz.prog N) (.self 96) cA w8:=
 xb.reads (n:=9) (s:= .struct [.int .i64,.int .i64,.str,.int .i64,.slice .str,.slice (.self 96)]) (by kernel_rfl) rfl λR h=>
  bJ.as (bJ.struct (bJ.cons Reads.int.r (bJ.cons Reads.int.r (bJ.cons Reads.str.r (bJ.cons Reads.int.r (bJ.cons (Reads.slice Reads.str).r
   (bJ.cons (bJ.slice (c:=cA) (W:=w8) (λds hd=>by unfold sD at hd;exact h ds hd)) bJ.nil)))))))
   (λx=>Ex.mk x.1 x.2.1 x.2.2.1 x.2.2.2.1 x.2.2.2.2.1 x.2.2.2.2.2.1) (λx=>by rw[ag];rfl) (λx hx=>aiI hx.2.1 hx.2.2.2.2.2.1.2)
def adZ:Sh:= .struct [.str,.struct [.int .i64,.int .i64,.int .i64],.str,.str]
theorem Jf:Reads adZ fR (λ_=>True):=
 Reads.as (Reads.struct (Reads.cons Reads.str (Reads.cons (Reads.struct (Reads.cons Reads.int (Reads.cons Reads.int (Reads.cons Reads.int Reads.nil)))) (Reads.cons Reads.str (Reads.cons Reads.str Reads.nil)))))
  (λx=>(⟨x.1,⟨x.2.1.1,x.2.1.2.1,x.2.1.2.2.1⟩,x.2.2.1,x.2.2.2.1⟩:rN)) (λ_=>rfl) (λ_ _=>trivial)
def apE:Sh:= .struct [.slice .str,.self 96]
theorem afD(N):bJ (xb Tryz.prog N) apE kO (λx=>x.names.length<=bI/\w8 x.e):=
 bJ.as (bJ.struct (bJ.cons (Reads.slice Reads.str).r (bJ.cons (afC N) bJ.nil))) (λx=>(⟨x.1,x.2.1⟩:wq)) (λx=>by simp only[kO,ag];rfl) (λx hx=>⟨hx.1.1,hx.2.1⟩)
def W7:Sh:= .struct [.str,.slice adZ,.slice adZ,.slice adZ,.slice apE]
theorem afE(N):bJ (xb Tryz.prog N) W7 ef (λn=>aqS n/\∀x∈n.eqs,w8 x.e):=
 bJ.as (bJ.struct (bJ.cons Reads.str.r (bJ.cons (Reads.slice Jf).r (bJ.cons (Reads.slice Jf).r (bJ.cons (Reads.slice Jf).r (bJ.cons (bJ.slice (afD N)) bJ.nil))))))
  (λx=>(⟨x.1,x.2.1,x.2.2.1,x.2.2.2.1,x.2.2.2.2.1⟩:kZ)) (λ_=>rfl)
  (λx hx=>⟨⟨hx.2.1.1,hx.2.2.1.1,hx.2.2.2.1.1,hx.2.2.2.2.1.1,λy hy=>(hx.2.2.2.2.1.2 y hy).1⟩,λy hy=>(hx.2.2.2.2.1.2 y hy).2⟩)
theorem afF:Reads (.struct [.str,.slice .str]) jQ (λ_=>True):=
 Reads.as (Reads.struct (Reads.cons Reads.str (Reads.cons (Reads.slice Reads.str) Reads.nil))) (λx=>(⟨x.1,x.2.1⟩:En)) (λ_=>rfl) (λ_ _=>trivial)
theorem Jg(N):bJ (xb Tryz.prog N) (.struct [.slice (.struct [.str,.slice .str]),.slice W7]) bT (λp=>WY p/\Gp p):=
 bJ.as (bJ.struct (bJ.cons (Reads.slice afF).r (bJ.cons (bJ.slice (afE N)) bJ.nil))) (λx=>(⟨x.1,x.2.1⟩:cY)) (λ_=>rfl)
  (λx hx=>⟨⟨hx.2.1.1,λn hn=>(hx.2.1.2 n hn).1⟩,λn hn=>(hx.2.1.2 n hn).2⟩)
theorem abe:Reads (.struct [.str,.slice (.int .i64)]) aT (λc=>∀n∈c.dL,gD n):=
 Reads.as (Reads.struct (Reads.cons Reads.str (Reads.cons (Reads.slice Reads.int) Reads.nil))) (λx=>(⟨x.1,x.2.1⟩:cW)) (λ_=>rfl) (λ_ h=>h.2.1.2)
theorem Sl:Reads (.slice (.int .i64)) dG (λy=>∀n∈y,gD n):=
 Reads.as (Reads.slice Reads.int) (λl=>l) (λ_=>rfl) (λ_ h=>h.2)
theorem NX:Reads (.slice (.slice (.int .i64))) jU zm:=
 Reads.as (Reads.slice Sl) (λl=>l) (λ_=>rfl) (λ_ h=>h.2)
theorem streamSteps_tells(I7)(h:Jh Tryz.prog [25,26,27] I7):Ai Tryz.prog 3 I7 (.bool true):=by obtain⟨d1,r,rfl,h1,d2,r',rfl,h2,d3,r3,rfl,h3,rfl⟩:=h;obtain⟨p,rfl,hp⟩:=Ji (ss:=[.slice (.struct [.str,.slice .str]),.slice W7]) (by kernel_rfl) Jg h1;obtain⟨m,rfl,_,hm⟩:=M0 (by kernel_rfl) abe h2;obtain⟨v,rfl,_,hv⟩:=M0 (by kernel_rfl) Sl h3;have e:=Ru p m v;have:=(NN _ (by rw[e];exact⟨hp.1,hp.2,hm,hv⟩)).2;rw[e]at this;exact this
theorem streamRuns_tells(I7)(h:Jh Tryz.prog [25,46] I7):Ai Tryz.prog 4 I7 (.bool true):=by obtain⟨d1,r,rfl,h1,d2,r',rfl,h2,rfl⟩:=h;obtain⟨p,rfl,hp⟩:=Ji (ss:=[.slice (.struct [.str,.slice .str]),.slice W7]) (by kernel_rfl) Jg h1;obtain⟨v,rfl,_,hv⟩:=M0 (by kernel_rfl) NX h2;have e:=Uh p v;have:=(Rv _ (by rw[e];exact⟨hp.1,hp.2,hv⟩)).2;rw[e]at this;exact this
theorem streamKeeps_tells(I7)(h:Jh Tryz.prog [25,46] I7):Ai Tryz.prog 5 I7 (.bool true):=by obtain⟨d1,r,rfl,h1,d2,r',rfl,h2,rfl⟩:=h;obtain⟨p,rfl,hp⟩:=Ji (ss:=[.slice (.struct [.str,.slice .str]),.slice W7]) (by kernel_rfl) Jg h1;obtain⟨v,rfl,_,hv⟩:=M0 (by kernel_rfl) NX h2;have e:=Rw p v;have:=(NU _ (by rw[e];exact⟨hp.1,hp.2,hv⟩)).2;rw[e]at this;exact this
end
end Go.Proofs.YtcokmopocppmiaaGreat

/- The types of what Flows keep (24). -/
import Derived.Test.YtcokmopocppmiaaGreatPgLc
set_option maxHeartbeats 4000000
set_option linter.all false
set_option maxRecDepth 20000
namespace Go.Proofs.YtcokmopocppmiaaGreat
open Go.Nk
def aiG(l:jw):Prop:=∀(i:Nat) (f:Fl),l.fs[i]? =some f->f.eqs.length<=1000000/\∀q∈f.eqs,(q.kind=5->0<q.names.length)/\(q.kind=7->bk i q=true)
def nB(l:jw)(n:Nat)(at_:Int):List Ty:=(eo l n at_).map (·.2)
theorem Jo(l)(n)(at_):nB l (n+1) at_=((ad l at_).eqs.filter gY).map (λq=>uQ (ad l at_) (aD q))++((ad l at_).eqs.filter (bk at_)).flatMap λq=>nB l n q.node:=by simp only[nB,eo,List.map_append,List.map_map,List.map_flatMap];rfl
def okT(l:jw)(n:Nat)(at_:Int):Prop:=W9 l/\aiG l/\0<=at_/\at_<n/\at_<l.fs.length/\(nB l n at_).length<=1000
noncomputable def j8(n:Nat):List DV->Prop×DV:=b5 jz eI λl at_=>(okT l n at_,.sl ((nB l n at_).map cK))
def yn(n)(l)(at_):=show j8 n [.agg (b8 l),.int .i64 at_]=_ from aO o9 b6 _ l at_
theorem aiY(o:List Ty)(a b c):o.map cK++[[.int .i64 a,.int .i64 b,.int .i64 c]]=(o++[(⟨a,b,c⟩:Ty)]).map cK:=by simp
theorem aiZ(o r:List Ty):o.map cK++r.map cK=(o++r).map cK:=by simp
def ai0(o:List Ty):=show(o.map cK).take o.length=_ from List.take_of_length_le (by simp)
theorem abh(o:List Ty):(∀e∈o.map cK,e.length=3)=True:=eq_true λx hx=>by obtain⟨y,_,rfl⟩:=List.mem_map.1 hx;rfl
theorem Xd{l:jw}{n}{at_:Int}(h:okT l n at_):(l.fs.map j0).getD at_.toNat []=j0 (ad l at_)/\ad l at_∈l.fs/\at_.toNat<l.fs.length/\(ad l at_).eqs.length<=1000000/\∀q∈(ad l at_).eqs,(q.kind=5->0<q.names.length)/\(q.kind=7->bk at_ q=true):=by
 obtain⟨h1,h2,h3,h4,h5,h6⟩:=h;have h7:at_.toNat<l.fs.length:=by omega
 have:l.fs[at_.toNat]? =some (ad l at_):=by simp[ad,h7]
 obtain⟨g1,g2⟩:=h2 _ _ this;rw[show((at_.toNat:Nat):Int)=at_ by omega]at g2;exact⟨af j0 this,List.mem_of_getElem? this,h7,g1,g2⟩
theorem ad2{l}{n}{at_}{q:Pl}(hq:q∈(ad l at_).eqs.filter (bk at_)):(nB l n q.node).length<=(nB l (n+1) at_).length:=by rw[Jo,List.length_append,List.length_flatMap];have:=DY (List.mem_map.2 ⟨q,hq,rfl⟩:(nB l n q.node).length∈((ad l at_).eqs.filter (bk at_)).map λq=>(nB l n q.node).length);omega
theorem aqX:aF Tryz.prog 31 (j8 0):=by refine aF.oU (ps:=[]) (hs:=[]) trivial trivial Am λl at_ h=> ?_;obtain⟨_,_,h3,h4,_⟩:=h;omega
def Jp(f:Fl)(qs:List Pl):List Ty:=(qs.filter gY).map λq=>uQ f (aD q)
def xg(l:jw)(n:Nat)(at_:Int)(qs:List Pl):List Ty:=(qs.filter (bk at_)).flatMap λq=>nB l n q.node
theorem So(f)(q)(r):Jp f (q::r)=(if gY q then [uQ f (aD q)]else [])++Jp f r:=by unfold Jp;rw[List.filter_cons];split<;>rfl
theorem N2(l)(n)(at_)(q:Pl)(r):xg l n at_ (q::r)=(if bk at_ q then nB l n q.node else [])++xg l n at_ r:=by unfold xg;rw[List.filter_cons];split<;>rfl
theorem aqY{n}(hS:aF Tryz.prog 31 (j8 n)):aF Tryz.prog 31 (j8 (n+1)):=by
 refine aF.oU (ps:=[(57,abj),(31,j8 n)]) (hs:=[]) ⟨Lf,hS,trivial⟩ trivial Am λl at_ h=> ?_;have h:okT l (n+1) at_:=h;obtain⟨fg,fm,fl,feq,fq⟩:=Xd h;have j9:=λq=>ad2 (l:=l) (n:=n) (at_:=at_) (q:=q);obtain⟨hI,hG,ha0,hn,ha1,hlen⟩:=h;have hw:=hI.2 _ fm;have aqZ:nB l (n+1) at_=Jp (ad l at_) (ad l at_).eqs++xg l n at_ (ad l at_).eqs:=Jo l n at_;dsimp only;rw[aqZ]at hlen j9|-;have e1:=λs=>M1 (ad l at_) s;rw[eq_true hw]at e1;have fj:∀s,uQ (ad l at_) s=z3 ((fp (ad l at_) s).getD vaZ):=λ_=>rfl;generalize ad l at_=f at*;obtain⟨dr,eV,cB,fvars,cU⟩:=f;dsimp only at feq fq j9 hlen;have N3:∀q∈cU,q.kind=7->j8 n [.agg (b8 l),.int .i64 q.node]=(True,.sl ((nB l n q.node).map cK)):=λq hq hk=>by
  have hc:=(fq q hq).2 hk;have hs:=j9 q (List.mem_filter.2 ⟨hq,hc⟩);obtain⟨_,_,c1,c2⟩:q.kind=7/\0<q.names.length/\0<=q.node/\q.node<at_:=by simpa[bk]using hc
  rw[yn,eq_true (show okT l n q.node from⟨hI,hG,c1,by omega,by omega,by omega⟩)]
 simp only[b8,j0]at N3 e1;refine aq (A5 @Ao.eq_1 @jz.eq_1 ha0 ha1 fg) (JJ ?_);refine ai cU (λj (x:List Ty×List Ty)=>⟨[(2,.ref (b8 l)),(5,.own 0 x.1.length 0 x.1.length),(6,.own 1 x.2.length 0 x.2.length),(7,.ptr 2 1 0 0),(18,.sl (cU.map fJ)),(19,.int .i64 cU.length),(20,.int .i64 j)],[⟨.aN,3,x.1.map cK⟩,⟨.aN,3,x.2.map cK⟩,⟨.loc,5,[[.str dr,.sl (eV.map dZ),.sl (cB.map dZ),.sl (fvars.map dZ),.sl (cU.map fJ)]]⟩]⟩)
  (λj r x=>x.1++Jp ⟨dr,eV,cB,fvars,cU⟩ r=Jp ⟨dr,eV,cB,fvars,cU⟩ cU/\x.2++xg l n at_ r=xg l n at_ cU) ([],[]) (by decide) CT ⟨rfl,rfl⟩ (λj q r x d hx hd hr=> ?_) (λj x e hr=> ?_)
 ·obtain⟨o,b⟩:=x;obtain⟨r1,r2⟩:=hr;dsimp only at r1 r2;have gq:=af fJ hx;have hm:=List.mem_of_getElem? hx;have hq1:=fq q hm;have hc:=N3 q hm;rw[So]at r1;rw[N2]at r2;have Xe:o.length+b.length+(if gY q then [uQ ⟨dr,eV,cB,fvars,cU⟩ (aD q)]else []).length+(if bk at_ q then nB l n q.node else []).length<=1000:=by have:=congrArg List.length r1;have:=congrArg List.length r2;simp only[List.length_append]at*;omega
  by_cases k5:q.kind=5
  ·have hnm:=hq1.1 k5;have hf:gY q=true:=by simp[gY,k5,hnm]
   have RA:bk at_ q=false:=by simp[bk,k5]
   rw[hf,if_pos rfl]at r1 Xe;rw[RA,if_neg (by decide)]at r2;have e2:=e1 (aD q);rw[fj]at r1;generalize (fp ⟨dr,eV,cB,fvars,cU⟩ (aD q)).getD vaZ=w at*;generalize (fp ⟨dr,eV,cB,fvars,cU⟩ (aD q)).isSome=wb at*;obtain⟨kind,names,op,args,init,node,rs,ev,en,on⟩:=q;dsimp only at k5 hnm;subst k5;match names,hnm with
   |s::ns,_=>
   have gs:(dI (s::ns)).getD 0 []=[.str s]:=rfl;have zK:aD ⟨5,s::ns,op,args,init,node,rs,ev,en,on⟩=s:=rfl;rw[zK]at e2;obtain⟨wn,wk,we,wl,won⟩:=w;simp only[List.length_cons,List.length_nil]at Xe;have ho:o.length<=999:=by omega
   refine aq (A6 @aj d gq gs e2 @aiY) (JJ ?_);all_goals exact⟨(o++[⟨wk,we,wl⟩],b),CT,by simpa[z3]using r1,by simpa using r2⟩
  ·have hf:gY q=false:=by simp[gY,k5]
   rw[hf,if_neg (by decide)]at r1 Xe;by_cases k7:q.kind=7
   ·have RA:=hq1.2 k7;have hc:=hc k7;rw[RA,if_pos rfl]at r2 Xe;obtain⟨kind,names,op,args,init,node,rs,ev,en,on⟩:=q;dsimp only at k7 hc r2 Xe;subst k7;simp only[List.length_nil]at Xe;have hb:b.length+(nB l n node).length<=1000:=by omega
    refine aq (A5 d gq hc @aiZ @abh) (JJ ?_);all_goals exact⟨(o,b++nB l n node),CT,by simpa using r1,by simpa using r2⟩
   ·have RA:bk at_ q=false:=by simp[bk,k7]
    rw[RA,if_neg (by decide)]at r2;obtain⟨kind,names,op,args,init,node,rs,ev,en,on⟩:=q;dsimp only at k5 k7;refine aq (A2 d gq) (JJ (λhn hn=> ?_));all_goals first|exact⟨(o,b),CT,by simpa using r1,by simpa using r2⟩|exact absurd (by assumption) k5|exact absurd (by assumption) k7
 ·obtain⟨o,b⟩:=x;obtain⟨r1,r2⟩:=hr;dsimp only at r1 r2;have r1:o=Jp ⟨dr,eV,cB,fvars,cU⟩ cU:=by simpa[Jp]using r1
  have r2:b=xg l n at_ cU:=by simpa[xg]using r2
  rw[<-r1,<-r2];rw[<-r1,<-r2,List.length_append]at hlen;have ht:List.take (o.length+b.length) ((o++b).map cK)=(o++b).map cK:=List.take_of_length_le (by simp);exact aq (A5 e @ai0 @aiZ @abh ht) zz
theorem aiN(n):aF Tryz.prog 31 (j8 n):=by
 induction n with
 |zero=>exact aqX
 |succ n ih=>exact aqY ih
theorem at3:aF Tryz.prog 58 (j8 0):=by refine aF.oU (ps:=[]) (hs:=[]) trivial trivial u7 λl at_ h=> ?_;obtain⟨_,_,h3,h4,_⟩:=h;omega
theorem at4{n}(hS:aF Tryz.prog 58 (j8 n)):aF Tryz.prog 58 (j8 (n+1)):=by
 refine aF.oU (ps:=[(91,abj),(58,j8 n)]) (hs:=[]) ⟨u9,hS,trivial⟩ trivial u7 λl at_ h=> ?_;have h:okT l (n+1) at_:=h;obtain⟨fg,fm,fl,feq,fq⟩:=Xd h;have j9:=λq=>ad2 (l:=l) (n:=n) (at_:=at_) (q:=q);obtain⟨hI,hG,ha0,hn,ha1,hlen⟩:=h;have hw:=hI.2 _ fm;have aqZ:nB l (n+1) at_=Jp (ad l at_) (ad l at_).eqs++xg l n at_ (ad l at_).eqs:=Jo l n at_;dsimp only;rw[aqZ]at hlen j9|-;have e1:=λs=>M1 (ad l at_) s;rw[eq_true hw]at e1;have fj:∀s,uQ (ad l at_) s=z3 ((fp (ad l at_) s).getD vaZ):=λ_=>rfl;generalize ad l at_=f at*;obtain⟨dr,eV,cB,fvars,cU⟩:=f;dsimp only at feq fq j9 hlen;have N3:∀q∈cU,q.kind=7->j8 n [.agg (b8 l),.int .i64 q.node]=(True,.sl ((nB l n q.node).map cK)):=λq hq hk=>by
  have hc:=(fq q hq).2 hk;have hs:=j9 q (List.mem_filter.2 ⟨hq,hc⟩);obtain⟨_,_,c1,c2⟩:q.kind=7/\0<q.names.length/\0<=q.node/\q.node<at_:=by simpa[bk]using hc
  rw[yn,eq_true (show okT l n q.node from⟨hI,hG,c1,by omega,by omega,by omega⟩)]
 simp only[b8,j0]at N3 e1;refine aq (A5 @va.eq_1 @jz.eq_1 ha0 ha1 fg) (JJ ?_);refine ai cU (λj (o:List Ty)=>⟨[(2,.ref (b8 l)),(5,.own 0 o.length 0 o.length),(6,.ptr 1 1 0 0),(7,.int .i64 j)],[⟨.aN,3,o.map cK⟩,⟨.loc,5,[[.str dr,.sl (eV.map dZ),.sl (cB.map dZ),.sl (fvars.map dZ),.sl (cU.map fJ)]]⟩]⟩)
  (λj r o=>o++Jp ⟨dr,eV,cB,fvars,cU⟩ r=Jp ⟨dr,eV,cB,fvars,cU⟩ cU) [] (by decide) CT rfl (λj q r o d hx hd r1=> ?_) (λj o e r1=> ?_)
 ·have gq:=af fJ hx;have hm:=List.mem_of_getElem? hx;have hq1:=fq q hm;rw[So]at r1;have Xe:o.length+(if gY q then [uQ ⟨dr,eV,cB,fvars,cU⟩ (aD q)]else []).length<=1000:=by have:=congrArg List.length r1;simp only[List.length_append]at*;omega
  by_cases k5:q.kind=5
  ·have hnm:=hq1.1 k5;have hf:gY q=true:=by simp[gY,k5,hnm]
   rw[hf,if_pos rfl]at r1 Xe;have e2:=e1 (aD q);rw[fj]at r1;generalize (fp ⟨dr,eV,cB,fvars,cU⟩ (aD q)).getD vaZ=w at*;generalize (fp ⟨dr,eV,cB,fvars,cU⟩ (aD q)).isSome=wb at*;obtain⟨kind,names,op,args,init,node,rs,ev,en,on⟩:=q;dsimp only at k5 hnm;subst k5;match names,hnm with
   |s::ns,_=>
   have gs:(dI (s::ns)).getD 0 []=[.str s]:=rfl;have zK:aD ⟨5,s::ns,op,args,init,node,rs,ev,en,on⟩=s:=rfl;rw[zK]at e2;obtain⟨wn,wk,we,wl,won⟩:=w;simp only[List.length_cons,List.length_nil]at Xe;have ho:o.length<=999:=by omega
   refine aq (A6 @aj d gq gs e2 @aiY) (JJ ?_);all_goals exact⟨o++[⟨wk,we,wl⟩],CT,by simpa[z3]using r1⟩
  ·have hf:gY q=false:=by simp[gY,k5]
   rw[hf,if_neg (by decide)]at r1;obtain⟨kind,names,op,args,init,node,rs,ev,en,on⟩:=q;dsimp only at k5;refine aq (A2 d gq) (JJ (λhn=> ?_));all_goals first|exact⟨o,CT,by simpa using r1⟩|exact absurd (by assumption) k5
 ·have r1:o=Jp ⟨dr,eV,cB,fvars,cU⟩ cU:=by simpa[Jp]using r1
  rw[<-r1]at hlen|-;rw[List.length_append]at hlen;refine aq @e (JJ ?_);refine ai cU (λj (b:List Ty)=>⟨[(2,.ref (b8 l)),(5,.own 0 b.length 0 b.length),(6,.ptr 1 1 0 0),(10,.int .i64 j)],[⟨.aN,3,b.map cK⟩,⟨.loc,5,[[.str dr,.sl (eV.map dZ),.sl (cB.map dZ),.sl (fvars.map dZ),.sl (cU.map fJ)]]⟩]⟩)
   (λj r b=>b++xg l n at_ r=o++xg l n at_ cU) o (by decide) CT rfl (λj q r b d hx hd r2=> ?_) (λj b e2 r2=> ?_)
  ·have gq:=af fJ hx;have hm:=List.mem_of_getElem? hx;have hq1:=fq q hm;have hc:=N3 q hm;rw[N2]at r2;have Xe:b.length+(if bk at_ q then nB l n q.node else []).length<=1000:=by have:=congrArg List.length r2;simp only[List.length_append]at*;omega
   by_cases k7:q.kind=7
   ·have RA:=hq1.2 k7;have hc:=hc k7;rw[RA,if_pos rfl]at r2 Xe;obtain⟨kind,names,op,args,init,node,rs,ev,en,on⟩:=q;dsimp only at k7 hc r2 Xe;subst k7;refine aq (A5 d gq hc @aiZ @abh) (JJ ?_);all_goals exact⟨b++nB l n node,CT,by simpa using r2⟩
   ·have RA:bk at_ q=false:=by simp[bk,k7]
    rw[RA,if_neg (by decide)]at r2;obtain⟨kind,names,op,args,init,node,rs,ev,en,on⟩:=q;dsimp only at k7;refine aq (A2 d gq) (JJ (λhn=> ?_));all_goals first|exact⟨b,CT,by simpa using r2⟩|exact absurd (by assumption) k7
  ·have r2:b=o++xg l n at_ cU:=by simpa[xg]using r2
   rw[<-r2];exact aq (A2 e2 @ai0) zz
theorem aiM(n):aF Tryz.prog 58 (j8 n):=by
 induction n with
 |zero=>exact at3
 |succ n ih=>exact at4 ih
end Go.Proofs.YtcokmopocppmiaaGreat

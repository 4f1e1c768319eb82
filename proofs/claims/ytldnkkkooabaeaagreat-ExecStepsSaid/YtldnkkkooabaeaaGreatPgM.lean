/- The types of what Flows keep (24). -/
import Derived.Test.YtldnkkkooabaeaaGreatPgLc
set_option maxHeartbeats 4000000
set_option linter.all false
set_option maxRecDepth 20000
namespace Go.Proofs.YtldnkkkooabaeaaGreat
open Go.Nk
def I'(l:cT):Prop:=∀(i:Nat) (f:Fl),l.fs[i]? =some f->f.eqs.length<=1000000/\∀q∈f.eqs,(q.kind=5->0<q.names.length)/\(q.kind=7->bt i q=true)
def oK(l:cT)(n:Nat)(at_:Int):List Ty:=(aK l n at_).map (·.2)
theorem LG(l:cT)(n:Nat)(at_:Int):oK l (n+1) at_=((ad l at_).eqs.filter gF).map (λq=>uD (ad l at_) (aw q))++((ad l at_).eqs.filter (bt at_)).flatMap λq=>oK l n q.node:=by simp only[oK,aK,IN,Ei,List.map_flatMap];rfl
def RY(l:cT)(n:Nat)(at_:Int):Prop:=Lt l/\I' l/\0<=at_/\at_<n/\at_<l.fs.length/\(oK l n at_).length<=1000
noncomputable def ly(n:Nat):Ab->Prop×J:=cH mc eI λl at_=>(RY l n at_,.sl ((oK l n at_).map dE))
theorem Af(n:Nat)(l:cT)(at_:Int):ly n [.agg (cD l),.int .i64 at_]=(RY l n at_,.sl ((oK l n at_).map dE)):=aY sR cF _ l at_
theorem aoa(o:List Ty)(a b c:Int):o.map dE++[[.int .i64 a,.int .i64 b,.int .i64 c]]=(o++[(⟨a,b,c⟩:Ty)]).map dE:=by simp
theorem M'(o r:List Ty):o.map dE++r.map dE=(o++r).map dE:=by simp
theorem aoc(o:List Ty):(o.map dE).take o.length=o.map dE:=vc (by simp)
theorem N'(o:List Ty):(∀e∈o.map dE,e.length=3)=True:=lU λx U=>by obtain⟨y,_,rfl⟩:=It.1 U;rfl
theorem aa9{l:cT}{n:Nat}{at_:Int}(h:RY l n at_):(l.fs.map lf).getD at_.toNat []=lf (ad l at_)/\ad l at_∈l.fs/\at_.toNat<l.fs.length/\(ad l at_).eqs.length<=1000000/\∀q∈(ad l at_).eqs,(q.kind=5->0<q.names.length)/\(q.kind=7->bt at_ q=true):=by
 obtain⟨h1,h2,h3,h4,h5,h6⟩:=h;have h7:at_.toNat<l.fs.length:=by omega
 have:l.fs[at_.toNat]? =some (ad l at_):=by simp[ad,h7]
 obtain⟨g1,g2⟩:=h2 _ _ this;rw[show((at_.toNat:Nat):Int)=at_ by omega]at g2;exact⟨ag lf this,ed this,h7,g1,g2⟩
theorem ahQ{l:cT}{n:Nat}{at_:Int}{q:Pl}(hq:q∈(ad l at_).eqs.filter (bt at_)):(oK l n q.node).length<=(oK l (n+1) at_).length:=by rw[LG,AS,List.length_flatMap];have:=FZ (It.2 ⟨q,hq,rfl⟩:(oK l n q.node).length∈((ad l at_).eqs.filter (bt at_)).map λq=>(oK l n q.node).length);omega
theorem awM:aJ Tryz.prog 68 (ly 0):=by refine aJ.se (ps:=[]) (I:=[]) trivial trivial ayc λl at_ h=>?_;obtain⟨_,_,h3,h4,_⟩:=h;omega
def LH(f:Fl)(qs:List Pl):List Ty:=(qs.filter gF).map λq=>uD f (aw q)
def yV(l:cT)(n:Nat)(at_:Int)(qs:List Pl):List Ty:=(qs.filter (bt at_)).flatMap λq=>oK l n q.node
theorem aCA(f:Fl)(q:Pl)(r:List Pl):LH f (q::r)=(if gF q then [uD f (aw q)]else [])++LH f r:=by unfold LH;rw[Cw];split<;>rfl
theorem aCB(l:cT)(n:Nat)(at_:Int)(q:Pl)(r:List Pl):yV l n at_ (q::r)=(if bt at_ q then oK l n q.node else [])++yV l n at_ r:=by unfold yV;rw[Cw];split<;>rfl
theorem awN{n:Nat}(hS:aJ Tryz.prog 68 (ly n)):aJ Tryz.prog 68 (ly (n+1)):=by
 refine aJ.se (ps:=[(94,Tw),(68,ly n)]) (I:=[]) ⟨aCu,hS,BB⟩ trivial ayc λl at_ h=>?_;have h:RY l (n+1) at_:=h;obtain⟨fg,fm,fl,O',fq⟩:=aa9 h;have og:=λq=>ahQ (l:=l) (n:=n) (at_:=at_) (q:=q);obtain⟨hI,hG,RV,hn,Wf,hlen⟩:=h;have hw:=hI.2 _ fm;have P':oK l (n+1) at_=LH (ad l at_) (ad l at_).eqs++yV l n at_ (ad l at_).eqs:=LG l n at_;dsimp only;rw[P']at hlen og|-;have Y:=λs=>PU (ad l at_) s;rw[lU hw]at Y;have iq:∀s,uD (ad l at_) s=z6 ((fO (ad l at_) s).getD K8):=λ_=>rfl;generalize ad l at_=f at*;obtain⟨fM,ie,cM,fvars,fG⟩:=f;dsimp only at O' fq og hlen;have Rn:∀q∈fG,q.kind=7->ly n [.agg (cD l),.int .i64 q.node]=(True,.sl ((oK l n q.node).map dE)):=λq hq hk=>by
  have hc:=(fq q hq).2 hk;have I:=og q (PC.2 ⟨hq,hc⟩);obtain⟨_,_,c1,c2⟩:q.kind=7/\0<q.names.length/\0<=q.node/\q.node<at_:=by simpa[bt]using hc
  rw[Af,lU (show RY l n q.node from⟨hI,hG,c1,by omega,by omega,by omega⟩)]
 simp only[cD,lf]at Rn Y;refine ao (fF @atM.eq_1 @mc.eq_1 RV Wf fg) (JJ ?_);refine aj fG (λj (x:List Ty×List Ty)=>⟨[(2,.ref (cD l)),(5,.own 0 x.1.length 0 x.1.length),(6,.own 1 x.2.length 0 x.2.length),(7,.ptr 2 1 0 0),(18,.sl (fG.map iK)),(19,.int .i64 fG.length),(20,.int .i64 j)],[⟨.aV,3,x.1.map dE⟩,⟨.aV,3,x.2.map dE⟩,⟨.loc,5,[[.str fM,.sl (ie.map eu),.sl (cM.map eu),.sl (fvars.map eu),.sl (fG.map iK)]]⟩]⟩)
  (λj r x=>x.1++LH ⟨fM,ie,cM,fvars,fG⟩ r=LH ⟨fM,ie,cM,fvars,fG⟩ fG/\x.2++yV l n at_ r=yV l n at_ fG) ([],[]) (by decide) CT ⟨rfl,rfl⟩ (λj q r x d U Z E=>?_) (λj x e E=>?_)
 .obtain⟨o,b⟩:=x;obtain⟨r1,r2⟩:=E;dsimp only at r1 r2;have gq:=ag iK U;have hm:=ed U;have Wg:=fq q hm;have hc:=Rn q hm;rw[aCA]at r1;rw[aCB]at r2;have XI:o.length+b.length+(if gF q then [uD ⟨fM,ie,cM,fvars,fG⟩ (aw q)]else []).length+(if bt at_ q then oK l n q.node else []).length<=1000:=by have:=C2 List.length r1;have:=C2 List.length r2;simp only[AS]at*;omega
  by_cases k5:q.kind=5
  .have FO:=Wg.1 k5;have hf:gF q=true:=by simp[gF,k5,FO]
   have UM:bt at_ q=false:=by simp[bt,k5]
   rw[hf,gr rfl]at r1 XI;rw[UM,ba (by decide)]at r2;have e2:=Y (aw q);rw[iq]at r1;generalize (fO ⟨fM,ie,cM,fvars,fG⟩ (aw q)).getD K8=w at*;generalize (fO ⟨fM,ie,cM,fvars,fG⟩ (aw q)).isSome=wb at*;obtain⟨kind,names,op,args,init,node,rs,ev,en,on⟩:=q;dsimp only at k5 FO;subst k5;match names,FO with
   |s::ns,_=>
   have gs:(cW (s::ns)).getD 0 []=[.str s]:=rfl;have wJ:aw ⟨5,s::ns,op,args,init,node,rs,ev,en,on⟩=s:=rfl;rw[wJ]at e2;obtain⟨wn,wk,we,wl,z_⟩:=w;simp only[IS,Cd]at XI;have ho:o.length<=999:=by omega
   refine ao (jg @ak d gq gs e2 @aoa) (JJ ?_);all_goals exact⟨(o++[⟨wk,we,wl⟩],b),CT,by simpa[z6]using r1,by simpa using r2⟩
  .have hf:gF q=false:=by simp[gF,k5]
   rw[hf,ba (by decide)]at r1 XI;by_cases k7:q.kind=7
   .have UM:=Wg.2 k7;have hc:=hc k7;rw[UM,gr rfl]at r2 XI;obtain⟨kind,names,op,args,init,node,rs,ev,en,on⟩:=q;dsimp only at k7 hc r2 XI;subst k7;simp only[Cd]at XI;have hb:b.length+(oK l n node).length<=1000:=by omega
    refine ao (fF d gq hc @M' @N') (JJ ?_);all_goals exact⟨(o,b++oK l n node),CT,by simpa using r1,by simpa using r2⟩
   .have UM:bt at_ q=false:=by simp[bt,k7]
    rw[UM,ba (by decide)]at r2;obtain⟨kind,names,op,args,init,node,rs,ev,en,on⟩:=q;dsimp only at k5 k7;refine ao (bV d gq) (JJ (λhn hn=>?_));all_goals first|exact⟨(o,b),CT,by simpa using r1,by simpa using r2⟩|exact absurd (by assumption) k5|exact absurd (by assumption) k7
 .obtain⟨o,b⟩:=x;obtain⟨r1,r2⟩:=E;dsimp only at r1 r2;have r1:o=LH ⟨fM,ie,cM,fvars,fG⟩ fG:=by simpa[LH]using r1
  have r2:b=yV l n at_ fG:=by simpa[yV]using r2
  rw[<-r1,<-r2];rw[<-r1,<-r2,AS]at hlen;have ht:List.take (o.length+b.length) ((o++b).map dE)=(o++b).map dE:=vc (by simp);exact ao (fF e @aoc @M' @N' ht) zz
theorem an6(n:Nat):aJ Tryz.prog 68 (ly n):=by
 induction n with
 |zero=>exact awM
 |succ n ih=>exact awN ih
theorem azT:aJ Tryz.prog 95 (ly 0):=by refine aJ.se (ps:=[]) (I:=[]) trivial trivial ayh λl at_ h=>?_;obtain⟨_,_,h3,h4,_⟩:=h;omega
theorem azU{n:Nat}(hS:aJ Tryz.prog 95 (ly n)):aJ Tryz.prog 95 (ly (n+1)):=by
 refine aJ.se (ps:=[(128,Tw),(95,ly n)]) (I:=[]) ⟨aCt,hS,BB⟩ trivial ayh λl at_ h=>?_;have h:RY l (n+1) at_:=h;obtain⟨fg,fm,fl,O',fq⟩:=aa9 h;have og:=λq=>ahQ (l:=l) (n:=n) (at_:=at_) (q:=q);obtain⟨hI,hG,RV,hn,Wf,hlen⟩:=h;have hw:=hI.2 _ fm;have P':oK l (n+1) at_=LH (ad l at_) (ad l at_).eqs++yV l n at_ (ad l at_).eqs:=LG l n at_;dsimp only;rw[P']at hlen og|-;have Y:=λs=>PU (ad l at_) s;rw[lU hw]at Y;have iq:∀s,uD (ad l at_) s=z6 ((fO (ad l at_) s).getD K8):=λ_=>rfl;generalize ad l at_=f at*;obtain⟨fM,ie,cM,fvars,fG⟩:=f;dsimp only at O' fq og hlen;have Rn:∀q∈fG,q.kind=7->ly n [.agg (cD l),.int .i64 q.node]=(True,.sl ((oK l n q.node).map dE)):=λq hq hk=>by
  have hc:=(fq q hq).2 hk;have I:=og q (PC.2 ⟨hq,hc⟩);obtain⟨_,_,c1,c2⟩:q.kind=7/\0<q.names.length/\0<=q.node/\q.node<at_:=by simpa[bt]using hc
  rw[Af,lU (show RY l n q.node from⟨hI,hG,c1,by omega,by omega,by omega⟩)]
 simp only[cD,lf]at Rn Y;refine ao (fF @auP.eq_1 @mc.eq_1 RV Wf fg) (JJ ?_);refine aj fG (λj (o:List Ty)=>⟨[(2,.ref (cD l)),(5,.own 0 o.length 0 o.length),(6,.ptr 1 1 0 0),(7,.int .i64 j)],[⟨.aV,3,o.map dE⟩,⟨.loc,5,[[.str fM,.sl (ie.map eu),.sl (cM.map eu),.sl (fvars.map eu),.sl (fG.map iK)]]⟩]⟩)
  (λj r o=>o++LH ⟨fM,ie,cM,fvars,fG⟩ r=LH ⟨fM,ie,cM,fvars,fG⟩ fG) [] (by decide) CT rfl (λj q r o d U Z r1=>?_) (λj o e r1=>?_)
 .have gq:=ag iK U;have hm:=ed U;have Wg:=fq q hm;rw[aCA]at r1;have XI:o.length+(if gF q then [uD ⟨fM,ie,cM,fvars,fG⟩ (aw q)]else []).length<=1000:=by have:=C2 List.length r1;simp only[AS]at*;omega
  by_cases k5:q.kind=5
  .have FO:=Wg.1 k5;have hf:gF q=true:=by simp[gF,k5,FO]
   rw[hf,gr rfl]at r1 XI;have e2:=Y (aw q);rw[iq]at r1;generalize (fO ⟨fM,ie,cM,fvars,fG⟩ (aw q)).getD K8=w at*;generalize (fO ⟨fM,ie,cM,fvars,fG⟩ (aw q)).isSome=wb at*;obtain⟨kind,names,op,args,init,node,rs,ev,en,on⟩:=q;dsimp only at k5 FO;subst k5;match names,FO with
   |s::ns,_=>
   have gs:(cW (s::ns)).getD 0 []=[.str s]:=rfl;have wJ:aw ⟨5,s::ns,op,args,init,node,rs,ev,en,on⟩=s:=rfl;rw[wJ]at e2;obtain⟨wn,wk,we,wl,z_⟩:=w;simp only[IS,Cd]at XI;have ho:o.length<=999:=by omega
   refine ao (jg @ak d gq gs e2 @aoa) (JJ ?_);all_goals exact⟨o++[⟨wk,we,wl⟩],CT,by simpa[z6]using r1⟩
  .have hf:gF q=false:=by simp[gF,k5]
   rw[hf,ba (by decide)]at r1;obtain⟨kind,names,op,args,init,node,rs,ev,en,on⟩:=q;dsimp only at k5;refine ao (bV d gq) (JJ (λhn=>?_));all_goals first|exact⟨o,CT,by simpa using r1⟩|exact absurd (by assumption) k5
 .have r1:o=LH ⟨fM,ie,cM,fvars,fG⟩ fG:=by simpa[LH]using r1
  rw[<-r1]at hlen|-;rw[AS]at hlen;refine ao @e (JJ ?_);refine aj fG (λj (b:List Ty)=>⟨[(2,.ref (cD l)),(5,.own 0 b.length 0 b.length),(6,.ptr 1 1 0 0),(10,.int .i64 j)],[⟨.aV,3,b.map dE⟩,⟨.loc,5,[[.str fM,.sl (ie.map eu),.sl (cM.map eu),.sl (fvars.map eu),.sl (fG.map iK)]]⟩]⟩)
   (λj r b=>b++yV l n at_ r=o++yV l n at_ fG) o (by decide) CT rfl (λj q r b d U Z r2=>?_) (λj b e2 r2=>?_)
  .have gq:=ag iK U;have hm:=ed U;have Wg:=fq q hm;have hc:=Rn q hm;rw[aCB]at r2;have XI:b.length+(if bt at_ q then oK l n q.node else []).length<=1000:=by have:=C2 List.length r2;simp only[AS]at*;omega
   by_cases k7:q.kind=7
   .have UM:=Wg.2 k7;have hc:=hc k7;rw[UM,gr rfl]at r2 XI;obtain⟨kind,names,op,args,init,node,rs,ev,en,on⟩:=q;dsimp only at k7 hc r2 XI;subst k7;refine ao (fF d gq hc @M' @N') (JJ ?_);all_goals exact⟨b++oK l n node,CT,by simpa using r2⟩
   .have UM:bt at_ q=false:=by simp[bt,k7]
    rw[UM,ba (by decide)]at r2;obtain⟨kind,names,op,args,init,node,rs,ev,en,on⟩:=q;dsimp only at k7;refine ao (bV d gq) (JJ (λhn=>?_));all_goals first|exact⟨b,CT,by simpa using r2⟩|exact absurd (by assumption) k7
  .have r2:b=o++yV l n at_ fG:=by simpa[yV]using r2
   rw[<-r2];exact ao (bV e2 @aoc) zz
theorem an5(n:Nat):aJ Tryz.prog 95 (ly n):=by
 induction n with
 |zero=>exact azT
 |succ n ih=>exact azU ih
end Go.Proofs.YtldnkkkooabaeaaGreat

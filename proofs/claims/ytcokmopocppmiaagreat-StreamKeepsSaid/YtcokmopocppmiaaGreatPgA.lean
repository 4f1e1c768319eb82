/- Programs: which are not too great, which may be: the walk (12). -/
import Derived.Test.YtcokmopocppmiaaGreatStB
set_option linter.all false
set_option maxRecDepth 20000
namespace Go.Proofs.YtcokmopocppmiaaGreat
open Go.Nk
def an9(l:List rN):Prop:=l.length<=bI
def O8(d:rN):Bool:=decide (d.name.length<=100)&&decide (d.on.length<=100)&&decide (d.ct.length<=100)
noncomputable def ab1:List DV->Prop×DV:=bB Ya λl=>(an9 l,.bool (Mp l))
def J2(l:List rN):=show ab1 [.sl (l.map fR)]=_ from aH Yc _ l
theorem Hu:aF Tryz.prog 37 ab1:=by
 refine aF.mo (ps:=[]) (hs:=[]) trivial trivial J3 λl h=> ?_;try dsimp only at h
 have h:l.length<=bI:=h;simp only[bI]at h;refine aq (A2 @xK.eq_1 @Ya.eq_1) (JJ ?_);refine ai l (λk (_:Unit)=>⟨[(0,.sl (l.map fR)),(3,.int .i64 k)],[]⟩) (λk r _=>r.all O8=l.all O8) () (Nat.zero_le _) CT rfl (λk x r _ d hx hd hr=> ?_) (λk _ e hr=> ?_)
 ·simp only[List.all_cons]at hr;refine aq (A2 d (af fR hx)) (A4 ?_ ?_ ?_ (JJ ?_))<;>intros;all_goals first
   |exact⟨(),CT,by rw[<-hr];simp[O8];omega⟩
   |(have:O8 x=false:=by simp[O8];omega
     show false=(l.all O8&&_);rw[<-hr,this,Bool.false_and,Bool.false_and])
 ·simp only[List.all_nil]at hr;refine aq @e (JJ ?_);all_goals(show _=(l.all O8&&_);rw[<-hr,Bool.true_and];congr 1;apply propext;omega)
def aqS(n:kZ):Prop:=an9 n.ins/\an9 n.outs/\an9 n.vars/\n.eqs.length<=bI/\∀x∈n.eqs,x.names.length<=bI
def WY(p:cY):Prop:=p.nodes.length<=bI/\∀n∈p.nodes,aqS n
noncomputable def NK:List DV->Prop×DV:=bB bj λp=>(WY p,.bool (bx p))
def WZ(p):=show NK [.agg (bT p)]=_ from aH dp _ p
theorem Ck:aF Tryz.prog 21 NK:=by
 refine aF.mo (ps:=[(36,Vt),(37,ab1),(38,O9)]) (hs:=[]) ⟨akf,Hu,CQ,trivial⟩ trivial EU λp h=> ?_;try dsimp only at h
 obtain⟨en,ns⟩:=p;obtain⟨h1,h2⟩:ns.length<=bI/\∀n∈ns,aqS n:=h;simp only[bI]at h1;by_cases hs:ub en=true/\ns.length<=10;rotate_left
 ·have hf:bx ⟨en,ns⟩=false:=by
   unfold bx;rcases Classical.not_and_iff_not_or_not.1 hs with h|h
   ·rw[Bool.not_eq_true]at h;rw[h];rfl
   ·rw[show decide (ns.length<=10)=false by simpa using h,Bool.and_false];rfl
  rcases Classical.not_and_iff_not_or_not.1 hs with h|h
  ·rw[Bool.not_eq_true]at h;exact aq (A5 @iM.eq_1 @yM @bj.eq_1 h hf) zz
  ·by_cases h0:ub en=true
   ·have h':decide ((ns.length:Int)>10)=true:=decide_eq_true (by omega);exact aq (A6 @iM.eq_1 @yM @bj.eq_1 h0 h' hf) zz
   ·rw[Bool.not_eq_true]at h0;exact aq (A5 @iM.eq_1 @yM @bj.eq_1 h0 hf) zz
 obtain⟨kB,z6⟩:=hs;have hP:bx ⟨en,ns⟩=ns.all dH:=by unfold bx;rw[kB];simp[z6]
 have ayA:decide ((ns.length:Int)>10)=false:=decide_eq_false (by omega);refine aq (A5 @iM.eq_1 @yM @bj.eq_1 kB ayA) (JJ ?_);refine ai ns (λk (_:Unit)=>⟨[(1,.ref (bT ⟨en,ns⟩)),(3,.int .i64 k)],[]⟩) (λk r _=>r.all dH=ns.all dH) () (Nat.zero_le _) CT rfl (λk x r _ d hx hd hr=> ?_) (λk _ e hr=> ?_)
 ·simp only[List.all_cons]at hr;obtain⟨c1,c2,c3,c4,c5⟩:=h2 x (List.mem_of_getElem? hx);have hn:dH x=(Mp x.ins&&Mp x.outs&&Mp x.vars&&decide (x.eqs.length<=30)&&decide (x.name.length<=100)&&x.eqs.all rM):=rfl;have g1:=J2 x.ins;have g2:=J2 x.outs;have g3:=J2 x.vars;rw[eq_true c1]at g1;rw[eq_true c2]at g2;rw[eq_true c3]at g3;simp only[bI]at c4 c5;by_cases q:(Mp x.ins&&Mp x.outs&&Mp x.vars&&decide (x.eqs.length<=30)&&decide (x.name.length<=100))=true;rotate_left
  ·have hf:dH x=false:=by rw[Bool.not_eq_true]at q;rw[hn,q];rfl
   rw[hf,Bool.false_and]at hr;refine aq (A5 d (af ef hx) g1 g2 g3) (A6 (λhn=> ?_) (λhn hn=> ?_) (λhn hn hn=> ?_) (λhn hn hn hn=> ?_) (λhn hn hn hn hn=> ?_) (JJ (λhn hn hn hn hn=> ?_)));all_goals first
    |(rw[hP,<-hr];done)
    |(exfalso;clear hr;grind)
  simp only[Bool.and_eq_true,decide_eq_true_eq]at q;obtain⟨⟨⟨⟨q1,q2⟩,q3⟩,q4⟩,q5⟩:=q;have hn':dH x=x.eqs.all rM:=by rw[hn,q1,q2,q3];simp[q4,q5]
  rw[q1]at g1;rw[q2]at g2;rw[q3]at g3;refine aq (A5 d (af ef hx) g1 g2 g3) (JJ (λhn hn=> ?_));rw[hn']at hr;refine ai x.eqs (λi (_:Unit)=>⟨[(1,.ref (bT ⟨en,ns⟩)),(3,.int .i64 k),(4,.ptr 0 1 0 0),(5,.int .i64 i)],[⟨.loc,5,[ef x]⟩]⟩) (λi r _=>r.all rM=x.eqs.all rM) () (Nat.zero_le _) CT rfl (λi y r' _ d' hy oF qB=> ?_) (λi _ e' qB=> ?_)
  ·simp only[List.all_cons]at qB;have c6:=c5 y (List.mem_of_getElem? hy);have e6:=Yf y.e;simp only[ag y.e]at e6;by_cases q:(decide (y.names.length<=20)&&er y.e)=true;rotate_left
   ·have hf:rM y=false:=by rw[Bool.not_eq_true]at q;unfold rM;rw[q];rfl
    have hz:bx ⟨en,ns⟩=false:=by rw[hP,<-hr,<-qB,hf];rfl
    refine aq (A4 @aj d' (af kO hy) e6) (A3 ?_ ?_ (JJ ?_))<;>intros;all_goals first
     |(rw[hz];done)
     |(exfalso;clear hr;grind)
   simp only[Bool.and_eq_true,decide_eq_true_eq]at q;obtain⟨q1,q2⟩:=q;rw[q2]at e6;have hf:rM y=y.names.all λs=>decide (s.length<=100):=by unfold rM;simp[q1,q2]
   refine aq (A4 @aj d' (af kO hy) e6) (JJ (λhn=> ?_));refine ai y.names (λj (_:Unit)=>⟨[(1,.ref (bT ⟨en,ns⟩)),(3,.int .i64 k),(4,.ptr 0 1 0 0),(5,.int .i64 i),(6,.ptr 1 1 0 0),(7,.int .i64 j)],[⟨.loc,5,[ef x]⟩,⟨.loc,7,[kO y]⟩]⟩) (λj q _=>(q.all λs=>decide (s.length<=100))=y.names.all λs=>decide (s.length<=100)) () (Nat.zero_le _) CT rfl (λj z r2 _ d2 hz hd2 hq=> ?_) (λj _ e3 hq=> ?_)
   ·rw[List.all_cons]at hq;have JM:=fk hz;refine aq (A3 @aj d2 JM) (A2 ?_ (JJ ?_))<;>intros;all_goals first
     |exact⟨(),CT,by rw[<-hq];simp;omega⟩
     |(have hb:decide (z.length<=100)=false:=decide_eq_false (by omega)
       rw[hP,<-hr,<-qB,hf,<-hq,hb];rfl)
   ·rw[List.all_nil]at hq;refine aq (A2 @aj e3) (JJ ?_);all_goals first
     |exact⟨(),CT,by rw[<-qB,hf,<-hq];rfl⟩
  ·simp only[List.all_nil]at qB;refine aq @e' (JJ ?_);all_goals first
    |exact⟨(),CT,by rw[<-hr,<-qB];rfl⟩
 ·simp only[List.all_nil]at hr;refine aq @e (JJ ?_);all_goals(rw[hP,<-hr])
end Go.Proofs.YtcokmopocppmiaaGreat

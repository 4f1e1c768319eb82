/- Programs: which are not too great, which may be: the walk (12). -/
import Derived.Test.YtldnkkkooabaeaaGreatStB
set_option linter.all false
set_option maxRecDepth 20000
namespace Go.Proofs.YtldnkkkooabaeaaGreat
open Go.Nk
def dR(l:List tN):Prop:=l.length<=bN
def Sm(d:tN):Bool:=decide (d.name.length<=100)&&decide (d.on.length<=100)&&decide (d.ct.length<=100)
noncomputable def _J:Ab->Prop×J:=bJ Vz λl=>(dR l,.bool (Lz l))
theorem Mi(l:List tN):_J [.sl (l.map gG)]=(dR l,.bool (Lz l)):=aI abL _ l
theorem aIF:aJ Tryz.prog 43 _J:=by
 refine aJ.mS (ps:=[]) (I:=[]) trivial trivial aEE λl h=>?_;try dsimp only at h
 have h:l.length<=bN:=h;simp only[bN]at h;refine ao (bV @aty.eq_1 @Vz.eq_1) (JJ ?_);refine aj l (λk (_:Unit)=>⟨[(0,.sl (l.map gG)),(3,.int .i64 k)],[]⟩) (λk r _=>r.all Sm=l.all Sm) () (AI _) CT rfl (λk x r _ d U Z E=>?_) (λk _ e E=>?_)
 .simp only[MM]at E;refine ao (bV d (ag gG U)) (fj ?_ ?_ ?_ (JJ ?_))<;>intros;all_goals first
   |exact⟨(),CT,by rw[<-E];simp[Sm];omega⟩
   |(have:Sm x=false:=by simp[Sm];omega
     show false=(l.all Sm&&_);rw[<-E,this,C4,C4])
 .simp only[C1]at E;refine ao @e (JJ ?_);all_goals(show _=(l.all Sm&&_);rw[<-E,Pd];congr 1;apply propext;omega)
def _L(n:kY):Prop:=dR n.ins/\dR n.outs/\dR n.vars/\n.eqs.length<=bN/\∀x∈n.eqs,x.names.length<=bN
def Te(p:fc):Prop:=p.nodes.length<=bN/\∀n∈p.nodes,_L n
noncomputable def Rg:Ab->Prop×J:=bJ bA λp=>(Te p,.bool (bF p))
theorem aa3(p:fc):Rg [.agg (cE p)]=(Te p,.bool (bF p)):=aI dY _ p
theorem aIG:aJ Tryz.prog 21 Rg:=by
 refine aJ.mS (ps:=[(42,YK),(43,_J),(44,Sn)]) (I:=[]) ⟨ao4,aIF,aIe,BB⟩ trivial aEl λp h=>?_;try dsimp only at h
 obtain⟨en,ns⟩:=p;obtain⟨h1,h2⟩:ns.length<=bN/\∀n∈ns,_L n:=h;simp only[bN]at h1;by_cases I:vJ en=true/\ns.length<=10;rotate_left
 .have hf:bF ⟨en,ns⟩=false:=by
   unfold bF;rcases Classical.not_and_iff_not_or_not.1 I with h|h
   .rw[Fb]at h;rw[h];rfl
   .rw[show decide (ns.length<=10)=false by simpa using h,Ma];rfl
  rcases Classical.not_and_iff_not_or_not.1 I with h|h
  .rw[Fb]at h;exact ao (fF @jB.eq_1 @Au @bA.eq_1 h hf) zz
  .by_cases h0:vJ en=true
   .have h':decide ((ns.length:Int)>10)=true:=ON (by omega);exact ao (jg @jB.eq_1 @Au @bA.eq_1 h0 h' hf) zz
   .rw[Fb]at h0;exact ao (fF @jB.eq_1 @Au @bA.eq_1 h0 hf) zz
 obtain⟨mU,D6⟩:=I;have hP:bF ⟨en,ns⟩=ns.all dA:=by unfold bF;rw[mU];simp[D6]
 have aEz:decide ((ns.length:Int)>10)=false:=Z7 (by omega);refine ao (fF @jB.eq_1 @Au @bA.eq_1 mU aEz) (JJ ?_);refine aj ns (λk (_:Unit)=>⟨[(1,.ref (cE ⟨en,ns⟩)),(3,.int .i64 k)],[]⟩) (λk r _=>r.all dA=ns.all dA) () (AI _) CT rfl (λk x r _ d U Z E=>?_) (λk _ e E=>?_)
 .simp only[MM]at E;obtain⟨c1,c2,c3,c4,c5⟩:=h2 x (ed U);have hn:dA x=(Lz x.ins&&Lz x.outs&&Lz x.vars&&decide (x.eqs.length<=30)&&decide (x.name.length<=100)&&x.eqs.all tV):=rfl;have g1:=Mi x.ins;have g2:=Mi x.outs;have g3:=Mi x.vars;rw[lU c1]at g1;rw[lU c2]at g2;rw[lU c3]at g3;simp only[bN]at c4 c5;by_cases q:(Lz x.ins&&Lz x.outs&&Lz x.vars&&decide (x.eqs.length<=30)&&decide (x.name.length<=100))=true;rotate_left
  .have hf:dA x=false:=by rw[Fb]at q;rw[hn,q];rfl
   rw[hf,C4]at E;refine ao (fF d (ag fe U) g1 g2 g3) (jg (λhn=>?_) (λhn hn=>?_) (λhn hn hn=>?_) (λhn hn hn hn=>?_) (λhn hn hn hn hn=>?_) (JJ (λhn hn hn hn hn=>?_)));all_goals first
    |(rw[hP,<-E];done)
    |(exfalso;clear E;grind)
  simp only[ab,ir]at q;obtain⟨⟨⟨⟨q1,q2⟩,q3⟩,q4⟩,q5⟩:=q;have hn':dA x=x.eqs.all tV:=by rw[hn,q1,q2,q3];simp[q4,q5]
  rw[q1]at g1;rw[q2]at g2;rw[q3]at g3;refine ao (fF d (ag fe U) g1 g2 g3) (JJ (λhn hn=>?_));rw[hn']at E;refine aj x.eqs (λi (_:Unit)=>⟨[(1,.ref (cE ⟨en,ns⟩)),(3,.int .i64 k),(4,.ptr 0 1 0 0),(5,.int .i64 i)],[⟨.loc,5,[fe x]⟩]⟩) (λi r _=>r.all tV=x.eqs.all tV) () (AI _) CT rfl (λi y r' _ d' hy xo tO=>?_) (λi _ e' tO=>?_)
  .simp only[MM]at tO;have c6:=c5 y (ed hy);have e6:=abO y.e;simp only[ai y.e]at e6;by_cases q:(decide (y.names.length<=20)&&eG y.e)=true;rotate_left
   .have hf:tV y=false:=by rw[Fb]at q;unfold tV;rw[q];rfl
    have hz:bF ⟨en,ns⟩=false:=by rw[hP,<-E,<-tO,hf];rfl
    refine ao (fj @ak d' (ag me hy) e6) (cL ?_ ?_ (JJ ?_))<;>intros;all_goals first
     |(rw[hz];done)
     |(exfalso;clear E;grind)
   simp only[ab,ir]at q;obtain⟨q1,q2⟩:=q;rw[q2]at e6;have hf:tV y=y.names.all λs=>decide (s.length<=100):=by unfold tV;simp[q1,q2]
   refine ao (fj @ak d' (ag me hy) e6) (JJ (λhn=>?_));refine aj y.names (λj (_:Unit)=>⟨[(1,.ref (cE ⟨en,ns⟩)),(3,.int .i64 k),(4,.ptr 0 1 0 0),(5,.int .i64 i),(6,.ptr 1 1 0 0),(7,.int .i64 j)],[⟨.loc,5,[fe x]⟩,⟨.loc,7,[me y]⟩]⟩) (λj q _=>(q.all λs=>decide (s.length<=100))=y.names.all λs=>decide (s.length<=100)) () (AI _) CT rfl (λj z r2 _ d2 hz Ek hq=>?_) (λj _ e3 hq=>?_)
   .rw[MM]at hq;have KZ:=fN hz;refine ao (cL @ak d2 KZ) (bV ?_ (JJ ?_))<;>intros;all_goals first
     |exact⟨(),CT,by rw[<-hq];simp;omega⟩
     |(have hb:decide (z.length<=100)=false:=Z7 (by omega)
       rw[hP,<-E,<-tO,hf,<-hq,hb];rfl)
   .rw[C1]at hq;refine ao (bV @ak e3) (JJ ?_);all_goals first
     |exact⟨(),CT,by rw[<-tO,hf,<-hq];rfl⟩
  .simp only[C1]at tO;refine ao @e' (JJ ?_);all_goals first
    |exact⟨(),CT,by rw[<-E,<-tO];rfl⟩
 .simp only[C1]at E;refine ao @e (JJ ?_);all_goals(rw[hP,<-E])
end Go.Proofs.YtldnkkkooabaeaaGreat

/- The same numbers. -/
import Derived.Test.YtcokmopocppmiaaGreatBa
set_option linter.all false
set_option maxRecDepth 20000
namespace Go.Proofs.YtcokmopocppmiaaGreat
open Go.Nk
noncomputable def adn:List DV->Prop×DV:=b5 m6 m6 λa b=>(a.length<=17592186044416,.bool (decide (a=b)))
def ahD(a:List Int)(b):=show adn [.sl (cX a),.sl (cX b)]=_ from aO mq mq _ a b
theorem Oe{a b:List Int}{k}{x y}{r}(h:decide (x::r=y::b.drop (k+1))=decide (a=b))(hx:x≠y):a≠b:=by intro e;have:decide (a=b)=true:=decide_eq_true e;rw[this]at h;simp only[decide_eq_true_eq,List.cons.injEq]at h;exact hx h.1
theorem FX:aF Tryz.prog 29 adn:=by
 refine aF.oU (ps:=[]) (hs:=[]) trivial trivial HJ λa b h=> ?_;try dsimp only at h
 have h:a.length<=17592186044416:=h;by_cases c:a.length=b.length;rotate_left
 ·have c2:decide (a=b)=false:=by simp;intro e;rw[e]at c;exact c rfl
  exact aq (A4 @pC.eq_1 @m6.eq_1 @aV c2) zz
 refine aq (A3 @pC.eq_1 @m6.eq_1 @aV) (JJ (λhn=> ?_));refine ai a (λk (_:Unit)=>⟨[(0,.sl (cX a)),(1,.sl (cX b)),(5,.int .i64 k)],[]⟩) (λk r _=>decide (r=b.drop k)=decide (a=b)) () (Nat.zero_le _) CT rfl (λk x r _ d hx hd hr=> ?_) (λk _ e hr=> ?_)
 ·obtain⟨y,hy,N1⟩:=dP b (k:=k) (by omega);rw[N1]at hr;have d2:k<b.length:=by omega
  refine aq (A5 @aV d d2 (Jl hx) (Jl hy)) (A2 (λhn=> ?_) (JJ (λhn=> ?_)))
  ·have:=Oe hr (by simpa using hn);simp[this]
  ·have e:x=y:=by first|exact hn|simpa using hn
   exact⟨(),CT,by rw[<-hr];simp[e]⟩
 ·rw[List.drop_of_length_le (by omega)]at hr;exact aq (A3 @aV e (Eq.symm hr)) zz
end Go.Proofs.YtcokmopocppmiaaGreat

/- The same numbers. -/
import Derived.Test.YtldnkkkooabaeaaGreatBa
set_option linter.all false
set_option maxRecDepth 20000
namespace Go.Proofs.YtldnkkkooabaeaaGreat
open Go.Nk
noncomputable def _A:Ab->Prop×J:=cH mH mH λa b=>(a.length<=17592186044416,.bool (decide (a=b)))
theorem alR(a:Ba)(b:Ba):_A [.sl (cC a),.sl (cC b)]=(a.length<=17592186044416,.bool (decide (a=b))):=aY nN nN _ a b
theorem ay5{a b:Ba}{k:Nat}{x y:Int}{r:Ba}(h:decide (x::r=y::b.drop (k+1))=decide (a=b))(U:x≠y):a≠b:=by intro e;have:decide (a=b)=true:=ON e;rw[this]at h;simp only[ir,DO]at h;exact U h.1
theorem aIw:aJ Tryz.prog 38 _A:=by
 refine aJ.se (ps:=[]) (I:=[]) trivial trivial aEw λa b h=>?_;try dsimp only at h
 have h:a.length<=17592186044416:=h;by_cases c:a.length=b.length;rotate_left
 .have c2:decide (a=b)=false:=by simp;intro e;rw[e]at c;exact c rfl
  exact ao (fj @qY.eq_1 @mH.eq_1 @aU c2) zz
 refine ao (cL @qY.eq_1 @mH.eq_1 @aU) (JJ (λhn=>?_));refine aj a (λk (_:Unit)=>⟨[(0,.sl (cC a)),(1,.sl (cC b)),(5,.int .i64 k)],[]⟩) (λk r _=>decide (r=b.drop k)=decide (a=b)) () (AI _) CT rfl (λk x r _ d U Z E=>?_) (λk _ e E=>?_)
 .obtain⟨y,hy,T7⟩:=eE b (k:=k) (by omega);rw[T7]at E;have d2:k<b.length:=by omega
  refine ao (fF @aU d d2 (LD U) (LD hy)) (bV (λhn=>?_) (JJ (λhn=>?_)))
  .have:=ay5 E (by simpa using hn);simp[this]
  .have e:x=y:=by first|exact hn|simpa using hn
   exact⟨(),CT,by rw[<-E];simp[e]⟩
 .rw[Z8 (by omega)]at E;exact ao (cL @aU e (CD E)) zz
end Go.Proofs.YtldnkkkooabaeaaGreat

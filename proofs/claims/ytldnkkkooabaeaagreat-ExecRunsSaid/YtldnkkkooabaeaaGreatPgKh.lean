/- Instants: calls, and equations that tell (24). -/
import Derived.Test.YtldnkkkooabaeaaGreatPgKe
import Derived.Test.YtldnkkkooabaeaaGreatMsH
set_option linter.all false
set_option maxRecDepth 20000
namespace Go.Proofs.YtldnkkkooabaeaaGreat
open Go.Nk
def Lt(l:cT):Prop:=okW l/\Vy l
def kJ(N:Nat)(v:sv)(q:Pl):Bd×List cG×Int:=bK v.l N q.node (rL v.l v.m v.env q) (q.args.map (aE v.env))
def Rs(N:Nat)(v:sv)(q:Pl):Prop:=UH v.l (bK v.l N) (oZ v.l N) (ad v.l v.at_) v.m q ⟨v.env,v.th⟩
def Rt(N:Nat)(v:sv)(q:Pl):sv:=if(kJ N v q).2.2=0 then⟨v.l,v.at_,v.m,mY v.th (aw q) (kJ N v q).2.1,v.env⟩else v
theorem QH(o:Bd)(x:Ba):o.map cy++[[.sl (cC x)]]=(o++[x]).map cy:=by simp
theorem aas(o:Bd):(o.map cy).take o.length=o.map cy:=vc (by simp)
theorem aCw{f:Fl}{m:List cG}{env:aP}{q:Pl}(hk:q.kind≠7):GN (lR f m env q)=some (.sl (cC (aN f m env q).1)):=by
 unfold lR;split
 .rename_i c;obtain⟨c1,c2⟩:=c;have:aN f m env q=([],16):=by rcases c1 with c1|c1<;>(unfold aN;rw[ba c2];simp[c1])
  rw[this];rfl
 .rfl
@[reducible] def PW(l:cT)(at_:Int)(m:List cG)(s:Ed):sv:=⟨l,at_,m,s.th,s.env⟩
theorem y_(a b c:ae):gU [a,b,c] 2 1:=⟨by simp,by simp,by decide⟩
theorem vZ(a:ae)(v:sv)(t:List ae):TX.put [a,⟨.dead,0,[]⟩,⟨.dead,0,[]⟩] 2 1 v++t=a::⟨.mp (v.env.map n8),0,[]⟩::⟨.loc,6,[rX 1 v]⟩::t:=rfl
theorem aD2{N:Nat}{l:cT}{f:Fl}{m:List cG}{q:Pl}{r:List Pl}{s:Ed}:ja l (bK l N) f m (q::r) s=if bn s.env q.on then(if(B7 l (bK l N) f m q s).2=0 then ja l (bK l N) f m r (B7 l (bK l N) f m q s).1 else B7 l (bK l N) f m q s)else ja l (bK l N) f m r s:=rfl
end Go.Proofs.YtldnkkkooabaeaaGreat

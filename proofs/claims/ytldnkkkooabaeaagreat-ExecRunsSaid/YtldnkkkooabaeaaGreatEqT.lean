/- Types held against each other, cell by cell. -/
import Derived.Test.YtldnkkkooabaeaaGreatTyI
set_option linter.all false
set_option maxRecDepth 20000
namespace Go.Proofs.YtldnkkkooabaeaaGreat
open Go.Nk
def ow(t u:Ty):Bool:=t.k==u.k&&(t.e==u.e&&t.n==u.n)
theorem qi(neg:Bool)(a b c a' b' c':Int):Q2 neg [0,0,0] (.agg [.int .i64 a,.int .i64 b,.int .i64 c]) (.agg [.int .i64 a',.int .i64 b',.int .i64 c'])=(True,.bool (if neg then !(ow ⟨a,b,c⟩ ⟨a',b',c'⟩)else ow ⟨a,b,c⟩ ⟨a',b',c'⟩)):=by
 have:eF [0,0,0] [.int .i64 a,.int .i64 b,.int .i64 c] [.int .i64 a',.int .i64 b',.int .i64 c']=some (ow ⟨a,b,c⟩ ⟨a',b',c'⟩):=by simp only[eF,Bp,ow];cases (a==a')<;>cases (b==b')<;>cases (c==c')<;>rfl
 simp[Q2,this]
instance:DecidableEq Ty:=λ⟨a,b,c⟩ ⟨d,e,f⟩=>decidable_of_iff (a=d/\b=e/\c=f) (by simp[Ty.mk.injEq])
theorem iW(t u:Ty):ow t u=decide (t=u):=by obtain⟨a,b,c⟩:=t;obtain⟨d,e,f⟩:=u;rw[Bool.eq_iff_iff];simp[ow,Ty.mk.injEq]
end Go.Proofs.YtldnkkkooabaeaaGreat

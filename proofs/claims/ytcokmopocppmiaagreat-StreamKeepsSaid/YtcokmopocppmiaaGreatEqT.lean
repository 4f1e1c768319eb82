/- Types held against each other, cell by cell. -/
import Derived.Test.YtcokmopocppmiaaGreatTyI
set_option linter.all false
set_option maxRecDepth 20000
namespace Go.Proofs.YtcokmopocppmiaaGreat
open Go.Nk
def mT(t u:Ty):Bool:=t.k==u.k&&(t.e==u.e&&t.n==u.n)
theorem oO(neg:Bool)(a b c a' b' c':Int):Vf neg [0,0,0] (.agg [.int .i64 a,.int .i64 b,.int .i64 c]) (.agg [.int .i64 a',.int .i64 b',.int .i64 c'])=(True,.bool (if neg then !(mT ⟨a,b,c⟩ ⟨a',b',c'⟩)else mT ⟨a,b,c⟩ ⟨a',b',c'⟩)):=by
 have:ez [0,0,0] [.int .i64 a,.int .i64 b,.int .i64 c] [.int .i64 a',.int .i64 b',.int .i64 c']=some (mT ⟨a,b,c⟩ ⟨a',b',c'⟩):=by simp only[ez,if_true,mT];cases (a==a')<;>cases (b==b')<;>cases (c==c')<;>rfl
 simp[Vf,this]
instance:DecidableEq Ty:=λ⟨a,b,c⟩ ⟨d,e,f⟩=>decidable_of_iff (a=d/\b=e/\c=f) (by simp[Ty.mk.injEq])
theorem hZ(t u:Ty):mT t u=decide (t=u):=by obtain⟨a,b,c⟩:=t;obtain⟨d,e,f⟩:=u;rw[Bool.eq_iff_iff];simp[mT,Ty.mk.injEq]
end Go.Proofs.YtcokmopocppmiaaGreat

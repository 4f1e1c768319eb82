/- An instruction's four numbers. -/
import Derived.Test.YtfaailjhioobhaaGreatFns
set_option linter.all false
set_option maxRecDepth 20000
namespace Go.Proofs.YtfaailjhioobhaaGreat
open Go.Nk
structure In4 where
 op : Int
 a : Int
 b : Int
 n : Int
 deriving DecidableEq
instance : Inhabited In4 := ⟨⟨0,0,0,0⟩⟩
@[reducible] def cIn (x : In4) : List DV := [.int .i64 x.op,.int .i64 x.a,.int .i64 x.b,.int .i64 x.n]
theorem z2z : ∀ x y,cIn x = cIn y → x = y := fun x y h => by
 obtain ⟨a,b,c,d⟩ := x; obtain ⟨a',b',c',d'⟩ := y
 simp only [cIn,List.cons.injEq,DV.int.injEq,true_and,and_true] at h
 obtain ⟨rfl,rfl,rfl,rfl⟩ := h
 rfl
def zbd (n : Int) : Prop := -9223372036854775808 ≤ n ∧ n < 9223372036854775808
end Go.Proofs.YtfaailjhioobhaaGreat

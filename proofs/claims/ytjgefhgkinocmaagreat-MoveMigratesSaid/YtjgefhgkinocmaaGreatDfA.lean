/- The text of changes. -/
import Derived.Test.YtjgefhgkinocmaaGreatTyM
set_option linter.all false
set_option maxRecDepth 20000
namespace Go.Proofs.YtjgefhgkinocmaaGreat
open Go.Nk Go.RowKit
structure Chg where
 path : List UInt8
 what : Int
 deriving DecidableEq
@[reducible] def cChg (c : Chg) : List DV := [.str c.path,.int .i64 c.what]
instance : Inhabited Chg := ⟨⟨[],0⟩⟩
abbrev eSlt : Slt -> DV := eA cSlt
theorem z1i : Inj eSlt := zt8 z1q
end Go.Proofs.YtjgefhgkinocmaaGreat

/- Where the first of a list is that has a property. -/
import Derived.Test.YtfaailjhioobhaaGreatFns
import Derived.Test.YtfaailjhioobhaaGreatNkZ3
set_option linter.all false
set_option maxRecDepth 20000
namespace Go.Proofs.YtfaailjhioobhaaGreat
open Go.Nk
end Go.Proofs.YtfaailjhioobhaaGreat

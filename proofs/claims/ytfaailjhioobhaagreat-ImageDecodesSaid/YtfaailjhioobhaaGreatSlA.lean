/- Comparisons of images that are the same. -/
import Derived.Test.YtfaailjhioobhaaGreatTyJ
set_option linter.all false
set_option maxRecDepth 20000
namespace Go.Proofs.YtfaailjhioobhaaGreat
open Go.Nk
abbrev eIns4 : List In4 → DV := eL cIn4
end Go.Proofs.YtfaailjhioobhaaGreat

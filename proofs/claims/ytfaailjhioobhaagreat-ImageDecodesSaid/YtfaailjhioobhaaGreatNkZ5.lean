/- Iterators, loops over what they hand over: the rules for their proofs. -/
import Derived.Test.YtfaailjhioobhaaGreatNkZ4
namespace Go.Proofs.YtfaailjhioobhaaGreat
end Go.Proofs.YtfaailjhioobhaaGreat
